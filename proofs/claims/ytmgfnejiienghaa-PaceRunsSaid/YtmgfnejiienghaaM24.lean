/- A checked evaluator: each operation is what the model does. -/
import Derived.Test.YtmgfnejiienghaaM23
namespace Go.Proofs.Ytmgfnejiienghaa
open Go Go.RowKit
set_option linter.unusedVariables false
namespace Ev
variable {P : Program} {ρ : Env} {E : List (Nat × Nat)} {w0 : World} {φ : Nat → Nat} {st : Store} {w : World}

theorem fieldsS_ok {t : TypeId} {fs : Array Field} (h : fieldsS P t = some fs) : P.underlying t = some (.struct fs) := by
  unfold fieldsS at h
  split at h
  · rename_i hq; cases h; exact hq
  · cases h
theorem indexAt_run {t elem : TypeId} {a : Addr} {len n j : Nat} {k : IntKind} {i : Int} (hs : sizeS P elem = some n) (hi : i = j) (hj : j < len)
    (x : Value) (hx : (∃ m, P.underlying t = some (.array m elem) ∧ m = len ∧ x = .pointer (some a)) ∨ (∃ c, P.underlying t = some (.slice elem) ∧ x = .slice (some a) len c)) (w : World) :
    (Instr.indexAt t x (.int k i)).run P w = .ok (.pointer (some (a.add (j * n)))) w := by
  subst hi
  rcases hx with ⟨m, hu, rfl, rfl⟩ | ⟨c, hu, rfl⟩
  · simp [Instr.indexAt, asIntOf, run_underlying hu, Instr.sureAddr, sizeS_run hs, hj]
  · simp [Instr.indexAt, asIntOf, run_underlying hu, sizeS_run hs, hj]
theorem boundS_ok {x : Option SV} {d n m : Nat} {c : BoundsCode} (h : boundS x d = some n) (hn : n ≤ m) (w : World) :
    (match x.map (SV.den ρ φ) with | some v => Instr.sliceBound v m c | none => Pure.pure d : Sem Nat).run P w = .ok n w := by
  unfold boundS at h
  split at h
  · cases h; rfl
  · cases h
    simp only [Option.map_some, SV.den, IE.den, Instr.sliceBound, asIntOf, Sem.run_bind, Sem.run_pure, Result.andThen_ok]
    rw [if_pos ⟨Int.natCast_nonneg n, Int.ofNat_le.2 hn⟩]
    rfl
  · cases h
theorem bounds_ok {lo hi : Option SV} {isS : Bool} {len cap l h : Nat} (h1 : boundS lo 0 = some l) (h2 : boundS hi len = some h) (hl : l ≤ h) (hh : h ≤ cap) (w : World) :
    (Instr.sliceBounds isS len cap (lo.map (SV.den ρ φ)) (hi.map (SV.den ρ φ)) none).run P w = .ok (l, h, cap) w := by
  have e1 := fun c => boundS_ok (P := P) (ρ := ρ) (φ := φ) (c := c) h2 hh w
  have e2 := fun c => boundS_ok (P := P) (ρ := ρ) (φ := φ) (c := c) h1 hl w
  unfold Instr.sliceBounds
  cases hi with
  | none =>
    cases lo with
    | none => simp [boundS] at h1 h2; subst h1; subst h2; simp
    | some v =>
      have := e2 .sliceB
      simp only [Option.map_some] at this
      simp [boundS] at h2
      subst h2
      simp [this]
  | some u =>
    have k1 := e1 (if isS then .sliceAcap else .sliceAlen)
    simp only [Option.map_some] at k1
    cases lo with
    | none => simp [boundS] at h1; subst h1; simp [k1]
    | some v =>
      have := e2 .sliceB
      simp only [Option.map_some] at this
      simp [k1, this]
theorem sliceS_ok {t : TypeId} {x v : SV} {lo hi : Option SV} (h : sliceS P t x lo hi = some v) (hbs : ∀ b sz len d, x = .sl b sz len d → len ≤ φ (capK b) / sz - d) (w : World) :
    (Instr.sliceAt t (x.den ρ φ) (lo.map (SV.den ρ φ)) (hi.map (SV.den ρ φ)) none).run P w = .ok (v.den ρ φ) w := by
  unfold sliceS at h
  split at h
  · rename_i elem b off len cap hu
    split at h
    · rename_i l hh n h1 h2 h3
      split at h
      · rename_i hc
        simp only [Bool.and_eq_true] at hc
        cases h
        have hb := bounds_ok (P := P) (ρ := ρ) (φ := φ) (isS := true) h1 h2 (Nat.le_of_ble_eq_true hc.1) (Nat.le_of_ble_eq_true hc.2) w
        simp only [Instr.sliceAt, Instr.slice, Sem.run_bind, run_underlying hu, Result.andThen_ok, SV.den, hb, sizeS_run h3, Sem.run_pure, Nat.beq_eq]
        by_cases hm : cap = l
        · simp [hm]
        · simp [hm, addr_add]
      · cases h
    · cases h
  · rename_i m elem b off hu
    split at h
    · rename_i l hh n h1 h2 h3
      split at h
      · rename_i hc
        simp only [Bool.and_eq_true] at hc
        cases h
        have hb := bounds_ok (P := P) (ρ := ρ) (φ := φ) (isS := false) h1 h2 (Nat.le_of_ble_eq_true hc.1) (Nat.le_of_ble_eq_true hc.2) w
        simp only [Instr.sliceAt, Sem.run_bind, run_underlying hu, Result.andThen_ok, SV.den, Instr.sureAddr, hb, sizeS_run h3, Sem.run_pure, Nat.beq_eq]
        by_cases hm : m = l
        · simp [hm]
        · simp [hm, addr_add]
      · cases h
    · cases h
  · rename_i elem b sz len d hu
    split at h
    · rename_i l hh n h1 h2 h3
      split at h
      · rename_i hc
        simp only [Bool.and_eq_true, Nat.beq_eq, Bool.or_eq_true, Nat.blt_eq] at hc
        obtain ⟨⟨⟨rfl, hl⟩, hh2⟩, hz⟩ := hc
        cases h
        have hl := Nat.le_of_ble_eq_true hl
        have hh2 := Nat.le_of_ble_eq_true hh2
        have hcap := hbs b n len d rfl
        have hb := bounds_ok (P := P) (ρ := ρ) (φ := φ) (isS := true) h1 h2 hl (Nat.le_trans hh2 hcap) w
        simp only [Instr.sliceAt, Instr.slice, Sem.run_bind, run_underlying hu, Result.andThen_ok, SV.den, hb, sizeS_run h3, Sem.run_pure]
        have hsub : φ (capK b) / n - (d + l) = φ (capK b) / n - d - l := by omega
        rw [hsub]
        rcases hz with rfl | hlt
        · simp
          intro _
          rw [addr_add]; simp
        · rw [if_neg (by omega)]
          simp only [Option.map_some, addr_add, Nat.add_mul]
      · cases h
    · cases h
  · rename_i hu
    split at h
    · rename_i l hl
      split at h
      · rename_i i hh h1 h2
        split at h
        · rename_i hc
          simp only [Bool.and_eq_true] at hc
          cases h
          have hb := bounds_ok (P := P) (ρ := ρ) (φ := φ) (isS := false) h1 h2 (Nat.le_of_ble_eq_true hc.1) (Nat.le_of_ble_eq_true hc.2) w
          rw [strB_den hl]
          have hsz : (bytesI (l.map (IE.den ρ))).size = l.length := by simp [bytesI_eq, ByteArray.size_mk']
          simp only [Instr.sliceAt, Instr.slice, Sem.run_bind, run_underlying hu, Result.andThen_ok, Option.isSome_none, Bool.false_eq_true, if_false, hsz, hb, Sem.run_pure]
          simp only [SV.den, bytesI_eq, ByteArray.extract_mk, List.map_take, List.map_drop]
        · cases h
      · cases h
    · cases h
  · cases h
theorem capS_ok {x : SV} {st' : Store} {r wl : List Loc} {u : Unit} (h : capS x st = .ok u st' r wl) (hr : RelS P ρ E w0 φ st w) : st' = st ∧ ∀ b sz len d, x = .sl b sz len d → len ≤ φ (capK b) / sz - d := by
  unfold capS at h
  split at h
  · rename_i b sz len d
    obtain ⟨B, s1, _, _, _, _, h1, h2, _, _⟩ := M.bind_ok h
    obtain ⟨hB, rfl⟩ := rdB_ok h1
    split at h2
    · rename_i hc
      simp only [Bool.and_eq_true, Bool.not_eq_true'] at hc
      obtain ⟨⟨hrow, hl⟩, h1z⟩ := hc
      have hl := Nat.le_of_ble_eq_true hl
      have h1z := Nat.le_of_ble_eq_true h1z
      obtain ⟨_, rfl, _, _⟩ := M.pure_ok h2
      refine ⟨rfl, fun b' sz' len' d' e => ?_⟩
      cases e
      obtain ⟨rest, fr, hg, htot, _⟩ := hr.row hB hrow
      have hlB : (SV.denL ρ φ B.cells).length = B.cells.length := by rw [denL_map]; simp
      have : d + len ≤ φ (capK b) / sz := by
        rw [Nat.le_div_iff_mul_le (by omega), ← htot, List.length_append, hlB]; omega
      omega
    · cases h2
  · rename_i hx
    obtain ⟨_, rfl, _, _⟩ := M.pure_ok h
    exact ⟨rfl, fun b sz len d e => absurd e (hx b sz len d)⟩
theorem sliceArgs_ok {x : Operand} {lo hi mx : Option Operand} {vs : List SV} {xv : SV} {l h : Option SV} {t : TypeId} {a : Act} (ha : sliceArgs lo hi mx vs = some (xv, l, h))
    (hargs : (Op.slice t x lo hi mx).operands.toList.map a.eval = SV.denL ρ φ vs) : a.eval x = xv.den ρ φ ∧ lo.map a.eval = l.map (SV.den ρ φ) ∧ hi.map a.eval = h.map (SV.den ρ φ) ∧ mx.map a.eval = none := by
  unfold sliceArgs at ha
  split at ha <;> simp only [Option.some.injEq, Prod.mk.injEq, reduceCtorEq] at ha
  all_goals
    obtain ⟨rfl, rfl, rfl⟩ := ha
    simp [Op.operands, SV.denL] at hargs
    simp [hargs]
theorem method_run {t : TypeId} {name : String} {f : FuncId} {v : Value} (h : methodS P t name = some f) (n : Nat) (w : World) : (method (n + 1) t v name).run P w = .ok (f, v) w := by
  unfold methodS at h
  cases hi : P.info? t with
  | none => simp [hi] at h
  | some i =>
    simp only [hi] at h
    cases hm : i.methods.find? (·.name == name) with
    | none => simp [hm] at h
    | some m =>
      simp only [hm] at h
      split at h
      · rename_i g ptr hp hf
        cases hu : P.underlying t with
        | none => simp [hu] at h
        | some d =>
          simp only [hu] at h
          have hx : ∀ wr, (receiverAt t (.val v) ptr wr).run P w = .ok v w ∧ g = f := by
            intro wr
            cases d <;> simp at h <;> (obtain ⟨h1, rfl⟩ := h; subst h1; simp [receiverAt, run_underlying hu, Place.get])
          simp only [method, Sem.run_bind, typeInfo, program, Sem.run, hi, Sem.run_pure, Result.andThen_ok, hm, hp, follow, hf, (hx _).1, (hx none).2]
      · cases h

theorem builtinS_ok {X : Ctx} (hX : Knows ρ X) {b : Builtin} {id : Nat} {ts : Array TypeId} {vs : List SV} {v : SV} {st' : Store} {r wl : List Loc} (h : builtinS P X b id ts vs st = .ok v st' r wl) (hr : RelS P ρ E w0 φ st w) (type : TypeId) :
    ∃ φ' w', Step P ρ E w0 φ st φ' st' w' ∧ ∀ consts, (builtin b ts type consts (SV.denL ρ φ vs).toArray).run P w = .ok (.value (v.den ρ φ')) w' := by
  have same : st' = st → (∀ consts, (builtin b ts type consts (SV.denL ρ φ vs).toArray).run P w = .ok (.value (v.den ρ φ)) w) → ∃ φ' w', Step P ρ E w0 φ st φ' st' w' ∧ ∀ consts, (builtin b ts type consts (SV.denL ρ φ vs).toArray).run P w = .ok (.value (v.den ρ φ')) w' := by
    rintro rfl he
    exact ⟨φ, w, Step.refl hr, he⟩
  match b, vs, h with
  | .append, [s, x], h =>
    obtain ⟨φ', w', hs, he⟩ := appendS_ok hX (show appendS P X id ts s x st = .ok v st' r wl from h) hr type
    refine ⟨φ', w', hs, fun consts => ?_⟩
    simp only [builtin, SV.denL, Sem.run_bind, he, Result.andThen_ok, Sem.run_pure]
  | .copy, [s, x], h =>
    change copyAny P X ts s x st = .ok v st' r wl at h
    cases x with
    | str j =>
      obtain ⟨w', hs, he⟩ := copyStr_ok hX (show copyStr P X ts s j st = .ok v st' r wl from h) hr type
      refine ⟨φ, w', hs, fun consts => ?_⟩
      simp only [builtin, SV.denL, SV.den, Sem.run_bind, he, Result.andThen_ok, Sem.run_pure]
    | _ =>
      obtain ⟨w', hs, he⟩ := copyS_ok hX (show copyS P X ts s _ st = .ok v st' r wl from h) hr type
      refine ⟨φ, w', hs, fun consts => ?_⟩
      simp only [builtin, SV.denL, Sem.run_bind, he, Result.andThen_ok, Sem.run_pure]
  | .len, [.str j], h =>
    change (match (ts[0]?).bind P.underlying, X.ss[j]? with | some .string, some d => pure (.int .i64 (.var d.n)) | _, _ => bad "len" : M Store SV) st = _ at h
    cases ht : ts[0]? with
    | none => simp only [ht, Option.bind_none] at h; cases h
    | some t =>
      cases hd : X.ss[j]? with
      | none =>
        cases hu : P.underlying t with
        | none => simp only [ht, Option.bind_some, hu] at h; cases h
        | some desc => cases desc <;> simp only [ht, Option.bind_some, hu, hd] at h <;> cases h
      | some d =>
        cases hu : P.underlying t with
        | none => simp only [ht, Option.bind_some, hu] at h; cases h
        | some desc =>
          cases desc <;> simp only [ht, Option.bind_some, hu, hd] at h <;> try (cases h; done)
          obtain ⟨rfl, rfl, _, _⟩ := M.pure_ok h
          refine same rfl (fun consts => ?_)
          have hx := (hX.ss j d hd).1
          simp [builtin, Builtin.len_, ht, SV.denL, SV.den, run_underlying hu, goInt, IE.den, hx]
  | .len, [.sl b sz n d], h =>
    change (match (ts[0]?).bind P.underlying with | some (.slice _) => pure (.int .i64 (.lit n)) | _ => bad "len" : M Store SV) st = _ at h
    cases ht : ts[0]? with
    | none => simp only [ht, Option.bind_none] at h; cases h
    | some t =>
      cases hu : P.underlying t with
      | none => simp only [ht, Option.bind_some, hu] at h; cases h
      | some d =>
        cases d <;> simp only [ht, Option.bind_some, hu] at h <;> try (cases h; done)
        obtain ⟨rfl, rfl, _, _⟩ := M.pure_ok h
        refine same rfl (fun consts => ?_)
        simp [builtin, Builtin.len_, ht, SV.denL, SV.den, run_underlying hu, goInt, IE.den]
  | .len, [.bts l], h =>
    change (match (ts[0]?).bind P.underlying with | some .string => pure (.int .i64 (.lit l.length)) | _ => bad "len" : M Store SV) st = _ at h
    cases ht : ts[0]? with
    | none => simp only [ht, Option.bind_none] at h; cases h
    | some t =>
      cases hu : P.underlying t with
      | none => simp only [ht, Option.bind_some, hu] at h; cases h
      | some d =>
        cases d <;> simp only [ht, Option.bind_some, hu] at h <;> try (cases h; done)
        obtain ⟨rfl, rfl, _, _⟩ := M.pure_ok h
        refine same rfl (fun consts => ?_)
        simp [builtin, Builtin.len_, ht, SV.denL, SV.den, run_underlying hu, goInt, IE.den, bytesI_eq, ByteArray.size_mk']
  | .len, [.raw (.string s)], h =>
    change (match (ts[0]?).bind P.underlying with | some .string => pure (.int .i64 (.lit s.size)) | _ => bad "len" : M Store SV) st = _ at h
    cases ht : ts[0]? with
    | none => simp only [ht, Option.bind_none] at h; cases h
    | some t =>
      cases hu : P.underlying t with
      | none => simp only [ht, Option.bind_some, hu] at h; cases h
      | some d =>
        cases d <;> simp only [ht, Option.bind_some, hu] at h <;> try (cases h; done)
        obtain ⟨rfl, rfl, _, _⟩ := M.pure_ok h
        refine same rfl (fun consts => ?_)
        simp [builtin, Builtin.len_, ht, SV.denL, SV.den, run_underlying hu, goInt, IE.den]
  | .len, [.slice b off n cp], h =>
    change (match (ts[0]?).bind P.underlying with | some (.slice _) => pure (.int .i64 (.lit n)) | _ => bad "len" : M Store SV) st = _ at h
    cases ht : ts[0]? with
    | none => simp only [ht, Option.bind_none] at h; cases h
    | some t =>
      cases hu : P.underlying t with
      | none => simp only [ht, Option.bind_some, hu] at h; cases h
      | some d =>
        cases d <;> simp only [ht, Option.bind_some, hu] at h <;> try (cases h; done)
        obtain ⟨rfl, rfl, _, _⟩ := M.pure_ok h
        refine same rfl (fun consts => ?_)
        simp [builtin, Builtin.len_, ht, SV.denL, SV.den, run_underlying hu, goInt, IE.den]
  | .len, [.raw (.slice ad n cp)], h =>
    change (match (ts[0]?).bind P.underlying with | some (.slice _) => pure (.int .i64 (.lit n)) | _ => bad "len" : M Store SV) st = _ at h
    cases ht : ts[0]? with
    | none => simp only [ht, Option.bind_none] at h; cases h
    | some t =>
      cases hu : P.underlying t with
      | none => simp only [ht, Option.bind_some, hu] at h; cases h
      | some d =>
        cases d <;> simp only [ht, Option.bind_some, hu] at h <;> try (cases h; done)
        obtain ⟨rfl, rfl, _, _⟩ := M.pure_ok h
        refine same rfl (fun consts => ?_)
        simp [builtin, Builtin.len_, ht, SV.denL, SV.den, run_underlying hu, goInt, IE.den]
  | .len, [.xs j], h =>
    change (match (ts[0]?).bind P.underlying, X.xs[j]? with | some (.slice _), some d => pure (.int .i64 (.var d.n)) | _, _ => bad "len" : M Store SV) st = _ at h
    cases ht : ts[0]? with
    | none => simp only [ht, Option.bind_none] at h; cases h
    | some t =>
      cases hd : X.xs[j]? with
      | none =>
        cases hu : P.underlying t with
        | none => simp only [ht, Option.bind_some, hu] at h; cases h
        | some desc => cases desc <;> simp only [ht, Option.bind_some, hu, hd] at h <;> cases h
      | some d =>
        cases hu : P.underlying t with
        | none => simp only [ht, Option.bind_some, hu] at h; cases h
        | some desc =>
          cases desc <;> simp only [ht, Option.bind_some, hu, hd] at h <;> try (cases h; done)
          obtain ⟨rfl, rfl, _, _⟩ := M.pure_ok h
          refine same rfl (fun consts => ?_)
          have hx := hX.xs j d hd
          cases hB : ρ.x j with
          | none =>
            rw [hB] at hx
            have hx : ρ.i d.n = 0 := hx
            simp [builtin, Builtin.len_, ht, SV.denL, SV.den, run_underlying hu, goInt, IE.den, hB, xsV, hx]
          | some B =>
            rw [hB] at hx
            obtain ⟨x1, _, x4, _⟩ := hx
            cases hem : B.em with
            | none => simp [builtin, Builtin.len_, ht, SV.denL, SV.den, run_underlying hu, goInt, IE.den, hB, xsV, hem, x1]
            | some q =>
              rw [hem] at x4
              have x5 := x4.resolve_left (fun h => by cases h)
              simp [builtin, Builtin.len_, ht, SV.denL, SV.den, run_underlying hu, goInt, IE.den, hB, xsV, hem, x1, x5]
  | .min, [.int k e1, .int l e2], h =>
    change (if k = l then pure (.int k (mkMnX X e1 e2)) else bad "min" : M Store SV) st = _ at h
    split at h
    · rename_i hk
      subst hk
      obtain ⟨rfl, rfl, _, _⟩ := M.pure_ok h
      refine same rfl (fun consts => ?_)
      simp [builtin, Builtin.min_, SV.denL, SV.den, Builtin.min2, mkMnX_den hX, mnI]
    · cases h
  | .max, [.int k e1, .int l e2], h =>
    change (if k = l then pure (.int k (mkMxX X e1 e2)) else bad "max" : M Store SV) st = _ at h
    split at h
    · rename_i hk
      subst hk
      obtain ⟨rfl, rfl, _, _⟩ := M.pure_ok h
      refine same rfl (fun consts => ?_)
      simp [builtin, Builtin.max_, SV.denL, SV.den, Builtin.max2, mkMxX_den hX, mxI]
    · cases h
  | .max, [.int k e1, .int l e2, .int m e3], h =>
    change (if k = l then (if l = m then pure (.int k (mkMxX X (mkMxX X e1 e2) e3)) else bad "max") else bad "max" : M Store SV) st = _ at h
    split at h
    · rename_i hk
      subst hk
      split at h
      · rename_i hk
        subst hk
        obtain ⟨rfl, rfl, _, _⟩ := M.pure_ok h
        refine same rfl (fun consts => ?_)
        simp only [builtin, Builtin.max_, SV.denL, SV.den, mkMxX_den hX, mxI]
        by_cases h1 : e2.den ρ > e1.den ρ <;> simp [h1, Builtin.max2] <;> (first | (split <;> simp_all) | skip)
      · cases h
    · cases h
theorem zip_ops (f : Operand → Value) : ∀ ps : List (Nat × Operand), (ps.map Prod.fst).zip (ps.map fun p => f p.2) = ps.map fun (i, x) => (i, f x)
  | [] => rfl
  | p :: ps => by simp [zip_ops f ps]
theorem evOp_sound {X : Ctx} (hX : Knows ρ X) {call rnd : Nat → List SV → Nat → M Store SV} (hc : CallOk P ρ E call) (hrn : RoundOk P ρ E rnd) {o : Oper} {a : Act} {vs : List SV} {id : Nat} {v : SV} {st' : Store} {r wl : List Loc}
    (hargs : o.op.operands.toList.map a.eval = SV.denL ρ φ vs) (h : evOp P X call rnd id o.op vs st = .ok v st' r wl) (hv : mayPan o.op = true ∨ notPan v = true) (hr : RelS P ρ E w0 φ st w) {rd : Option Nat}
    {next : Act → World → Prop} {Q : Exit → Act → World → Prop} (hn : ∀ φ' w', Step P ρ E w0 φ st φ' st' w' → outc ρ φ' v o.dst next Q a w') : o.wpIn (FW rd) 0 P a w next Q := by
  obtain ⟨dst, op, type, pos, after, guard⟩ := o
  simp only at hargs h hn hv ⊢
  have val : ∀ {φ' w' x}, mayPan op = false → (∀ c, op ≠ .defer c) → (execOp a.eval ⟨dst, op, type, pos, after, guard⟩).run P w = .ok (.value x) w' → Step P ρ E w0 φ st φ' st' w' → x = v.den ρ φ' → Oper.wpIn (FW rd) 0 P ⟨dst, op, type, pos, after, guard⟩ a w next Q := by
    intro φ' w' x hp hd he hs hx
    subst hx
    exact wp_value hd he ((outc_put (hv.resolve_left (by rw [hp]; simp))).1 (hn _ _ hs))
  have same : ∀ {x}, mayPan op = false → (∀ c, op ≠ .defer c) → (execOp a.eval ⟨dst, op, type, pos, after, guard⟩).run P w = .ok (.value x) w → st' = st → x = v.den ρ φ → Oper.wpIn (FW rd) 0 P ⟨dst, op, type, pos, after, guard⟩ a w next Q := by
    intro x hp hd he hs hx
    subst hs
    exact val hp hd he (Step.refl hr) hx
  have calls : ∀ {f args}, (∀ c, op ≠ .defer c) → call f args id st = .ok v st' r wl → (∀ w', (execOp a.eval ⟨dst, op, type, pos, after, guard⟩).run P w' = (callFunc f (SV.denL ρ φ args).toArray).run P w') → Oper.wpIn (FW rd) 0 P ⟨dst, op, type, pos, after, guard⟩ a w next Q := by
    intro f args hd hcall he
    obtain ⟨h1, h2⟩ := hc _ _ _ _ _ _ _ _ hcall w0 φ w hr
    refine wp_enter' hd (by rw [he, h1]) (h2.mono ?_)
    rintro e w' ⟨φ', hs, rfl⟩
    have := hn _ _ hs
    cases v <;> first | exact .inl ⟨_, rfl, this⟩ | exact .inr ⟨_, rfl, this⟩
  cases op
  case move x =>
    match vs, h with
    | [u], h =>
      obtain ⟨rfl, rfl, _, _⟩ := M.pure_ok h
      simp only [Op.operands, List.map_cons, List.map_nil, SV.denL, List.cons.injEq, and_true] at hargs
      exact same rfl (by simp) (by simp [execOp, hargs]) rfl rfl
  case assign x =>
    match vs, h with
    | [u], h =>
      obtain ⟨rfl, rfl, _, _⟩ := M.pure_ok h
      simp only [Op.operands, List.map_cons, List.map_nil, SV.denL, List.cons.injEq, and_true] at hargs
      exact same rfl (by simp) (by simp [execOp, hargs]) rfl rfl
  case pick c x y =>
    match vs, h with
    | [.bool b, u1, u2], h =>
      obtain ⟨t, s1, _, _, _, _, h1, h2, _, _⟩ := M.bind_ok h
      obtain ⟨e, rfl⟩ := dec_ok hX h1
      obtain ⟨rfl, rfl, _, _⟩ := M.pure_ok h2
      simp only [Op.operands, List.map_cons, List.map_nil, SV.denL, List.cons.injEq, and_true, SV.den] at hargs
      refine same rfl (by simp) (x := if t then u1.den ρ φ else u2.den ρ φ) ?_ rfl (by cases t <;> rfl)
      simp only [execOp, hargs.1, hargs.2.1, hargs.2.2, e]
      cases t <;> simp [asBool]
  case alloc elem =>
    match vs, h with
    | [], h =>
      change (match zeroS P elem with | some cs => (do newR id ⟨elem, cs⟩; pure (.ptr id 0) : M Store SV) | none => bad "alloc") st = _ at h
      cases hz : zeroS P elem with
      | none => simp only [hz] at h; cases h
      | some cs =>
        simp only [hz] at h
        obtain ⟨_, s1, _, _, _, _, h1, h2, _, _⟩ := M.bind_ok h
        obtain ⟨hid, hz', hcl, hrow, rfl⟩ := newR_ok h1
        obtain ⟨rfl, rfl, _, _⟩ := M.pure_ok h2
        obtain ⟨z, hzr, hzc⟩ := zeroS_run (ρ := ρ) (φ := φ) hz w
        obtain ⟨φ', hs, hnew, _⟩ := hr.new id ⟨elem, cs⟩ hid hz' hcl hrow
        refine val rfl (by simp) (x := .pointer (some ⟨w.heap.size, 0, none⟩)) ?_ hs (by simp [SV.den, hnew])
        simp only [execOp, Instr.alloc, Sem.run_bind, hzr, Result.andThen_ok, newVar, hzc, newRow_run, Sem.run_pure]
  case box elem x =>
    match vs, h with
    | [u], h =>
      change (match u.parts with | some cs => (do newR id ⟨elem, cs⟩; pure (.ptr id 0) : M Store SV) | none => bad "box") st = _ at h
      cases hz : u.parts with
      | none => simp only [hz] at h; cases h
      | some cs =>
        simp only [hz] at h
        obtain ⟨_, s1, _, _, _, _, h1, h2, _, _⟩ := M.bind_ok h
        obtain ⟨hid, hz', hcl, hrow, rfl⟩ := newR_ok h1
        obtain ⟨rfl, rfl, _, _⟩ := M.pure_ok h2
        obtain ⟨φ', hs, hnew, _⟩ := hr.new id ⟨elem, cs⟩ hid hz' hcl hrow
        simp only [Op.operands, List.map_cons, List.map_nil, SV.denL, List.cons.injEq, and_true] at hargs
        refine val rfl (by simp) (x := .pointer (some ⟨w.heap.size, 0, none⟩)) ?_ hs (by simp [SV.den, hnew])
        simp only [execOp, hargs, Instr.box, newVar, (parts_den (ρ := ρ) (φ := φ) hz).1, Sem.run_bind, newRow_run, Result.andThen_ok, Sem.run_pure]
  case build t ps =>
    have hz0 : (ps.map fun (i, x) => (i, a.eval x)) = ((idxS ps).zip (SV.denL ρ φ vs)).toArray := by
      rw [← hargs]
      have hop : (ps.toList.map (·.2)).map a.eval = ps.toList.map fun p => a.eval p.2 := by simp
      apply Array.ext'
      simp only [Op.operands, Array.toList_map, List.toList_toArray, hop, idxS, zip_ops]
    change (match P.underlying t, zeroS P t with
      | some (.struct fs), some z =>
        (match fillS (placeS P fs) z ((idxS ps).zip vs) with
        | some cs => if fs.all (fun f => (sizeS P f.type).isSome) then pure (.agg cs) else bad "build"
        | none => bad "build" : M Store SV)
      | some (.array _ elem), some z =>
        (match sizeS P elem with
        | some n =>
          match fillS (fun i => some (i * n, n)) z ((idxS ps).zip vs) with
          | some cs => pure (.agg cs)
          | none => bad "build"
        | none => bad "build" : M Store SV)
      | _, _ => bad "build") st = _ at h
    cases hu : P.underlying t with
    | none => simp only [hu] at h; cases h
    | some d =>
      cases hz : zeroS P t with
      | none => cases d <;> simp only [hu, hz] at h <;> cases h
      | some z =>
        cases d <;> simp only [hu, hz] at h <;> try (cases h; done)
        case array len elem =>
          cases hs : sizeS P elem with
          | none => simp only [hs] at h; cases h
          | some n =>
            simp only [hs] at h
            cases hf : fillS (fun i => some (i * n, n)) z ((idxS ps).zip vs) with
            | none => simp only [hf] at h; cases h
            | some cs =>
              simp only [hf] at h
              obtain ⟨rfl, rfl, _, _⟩ := M.pure_ok h
              refine same rfl (by simp) ?_ rfl rfl
              simp only [execOp, hz0, Sem.run_bind, build_array (ρ := ρ) (φ := φ) hu hz hs hf w, Result.andThen_ok, Sem.run_pure, SV.den]
        case struct fs =>
          cases hf : fillS (placeS P fs) z ((idxS ps).zip vs) with
          | none => simp only [hf] at h; cases h
          | some cs =>
            simp only [hf] at h
            split at h
            · rename_i hall
              obtain ⟨rfl, rfl, _, _⟩ := M.pure_ok h
              refine same rfl (by simp) ?_ rfl rfl
              simp only [execOp, hz0, Sem.run_bind, build_struct (ρ := ρ) (φ := φ) hu hz hall hf w, Result.andThen_ok, Sem.run_pure, SV.den]
            · cases h
  case buildSlice t len ps =>
    have hz0 : (ps.map fun (i, x) => (i, a.eval x)) = ((idxS ps).zip (SV.denL ρ φ vs)).toArray := by
      rw [← hargs]
      have hop : (ps.toList.map (·.2)).map a.eval = ps.toList.map fun p => a.eval p.2 := by simp
      apply Array.ext'
      simp only [Op.operands, Array.toList_map, List.toList_toArray, hop, idxS, zip_ops]
    change (match P.underlying t with
      | some (.slice elem) =>
        (match sizeS P elem, zeroS P elem with
        | some n, some z =>
          if Nat.beq z.length n && Nat.ble (len * n) 16777216 then
            match fillS (fun i => some (i * n, n)) (List.replicate len z).flatten ((idxS ps).zip vs) with
            | some cs => (do
              newR id ⟨elem, cs⟩
              pure (.slice id 0 len len) : M Store SV)
            | none => bad "buildSlice"
          else bad "buildSlice"
        | _, _ => bad "buildSlice" : M Store SV)
      | _ => bad "buildSlice") st = _ at h
    cases hu : P.underlying t with
    | none => simp only [hu] at h; cases h
    | some d =>
      cases d <;> simp only [hu] at h <;> try (cases h; done)
      rename_i elem
      cases hs : sizeS P elem with
      | none => simp only [hs] at h; cases h
      | some n =>
        cases hz : zeroS P elem with
        | none => simp only [hs, hz] at h; cases h
        | some z =>
          simp only [hs, hz] at h
          split at h
          · rename_i hle
            simp only [Bool.and_eq_true, Nat.beq_eq] at hle
            cases hf : fillS (fun i => some (i * n, n)) (List.replicate len z).flatten ((idxS ps).zip vs) with
            | none => simp only [hf] at h; cases h
            | some cs =>
              simp only [hf] at h
              obtain ⟨_, s1, _, _, _, _, h1, h2, _, _⟩ := M.bind_ok h
              obtain ⟨hid, hz', hcl, hrow, rfl⟩ := newR_ok h1
              obtain ⟨rfl, rfl, _, _⟩ := M.pure_ok h2
              obtain ⟨φ', hs', hnew, _⟩ := hr.new id ⟨elem, cs⟩ hid hz' hcl hrow
              refine val rfl (by simp) (x := .slice (some ⟨w.heap.size, 0, none⟩) len len) ?_ hs' (by simp [SV.den, hnew])
              simp only [execOp, hz0, Sem.run_bind, buildSlice_run (ρ := ρ) (φ := φ) hu hz hs hle.1 (Nat.le_of_ble_eq_true hle.2) hf w, Result.andThen_ok, Sem.run_pure]
          · cases h
  case load t x =>
    match vs, h with
    | [.ptr b off], h =>
      obtain ⟨rfl, hl⟩ := loadS_ok h hr
      simp only [Op.operands, List.map_cons, List.map_nil, SV.denL, List.cons.injEq, and_true, SV.den] at hargs
      exact same rfl (by simp) (by simp only [execOp, hargs, Instr.loadAt, Instr.sureAddr, Sem.run_bind, Sem.run_pure, Result.andThen_ok, hl]) rfl rfl
    | [.xp j e c], h =>
      obtain ⟨rfl, b, hb, hl⟩ := loadX_ok hX h hr
      simp only [Op.operands, List.map_cons, List.map_nil, SV.denL, List.cons.injEq, and_true, hb] at hargs
      exact same rfl (by simp) (by simp only [execOp, hargs, Instr.loadAt, Instr.sureAddr, Sem.run_bind, Sem.run_pure, Result.andThen_ok, hl]) rfl rfl
    | [.pv b off sz n e c], h =>
      obtain ⟨rfl, hl⟩ := loadV_ok hX h hr
      simp only [Op.operands, List.map_cons, List.map_nil, SV.denL, List.cons.injEq, and_true, SV.den] at hargs
      exact same rfl (by simp) (by simp only [execOp, hargs, Instr.loadAt, Instr.sureAddr, Sem.run_bind, Sem.run_pure, Result.andThen_ok, hl]) rfl rfl
  case store t x y =>
    match vs, h with
    | [.ptr b off, u], h =>
      change (match u.parts with | some cs => (do chk (SV.idsL cs); storeS P t b off u : M Store SV) | none => bad "store") st = _ at h
      cases hz : u.parts with
      | none => simp only [hz] at h; cases h
      | some cs =>
        simp only [hz] at h
        obtain ⟨_, s1, _, _, _, _, h1, h2, _, _⟩ := M.bind_ok h
        obtain ⟨rfl, hcl⟩ := chk_ok h1
        obtain ⟨rfl, w', hs, hw⟩ := storeS_ok h2 hr (fun cs' h' => by rw [hz] at h'; cases h'; exact hcl)
        simp only [Op.operands, List.map_cons, List.map_nil, SV.denL, List.cons.injEq, and_true, SV.den] at hargs
        refine wp_skip' (w' := w') (by simp) ?_ (hn _ _ hs)
        simp only [execOp, hargs.1, hargs.2, Instr.storeAt, Instr.sureAddr, Sem.run_bind, Sem.run_pure, Result.andThen_ok, hw]
  case nilCheck x =>
    match vs, h with
    | [.ptr b off], h =>
      obtain ⟨rfl, rfl, _, _⟩ := M.pure_ok h
      simp only [Op.operands, List.map_cons, List.map_nil, SV.denL, List.cons.injEq, and_true, SV.den] at hargs
      exact same rfl (by simp) (by simp only [execOp, hargs, Sem.run_pure, SV.den]) rfl rfl
    | [.slice b off n c], h =>
      obtain ⟨rfl, rfl, _, _⟩ := M.pure_ok h
      simp only [Op.operands, List.map_cons, List.map_nil, SV.denL, List.cons.injEq, and_true, SV.den] at hargs
      exact same rfl (by simp) (by simp only [execOp, hargs, Sem.run_pure, SV.den]) rfl rfl
    | [.func (.func f) x c], h =>
      obtain ⟨rfl, rfl, _, _⟩ := M.pure_ok h
      simp only [Op.operands, List.map_cons, List.map_nil, SV.denL, List.cons.injEq, and_true, SV.den] at hargs
      exact same rfl (by simp) (by simp only [execOp, hargs, Sem.run_pure, SV.den]) rfl rfl
    | [.iface t u], h =>
      obtain ⟨rfl, rfl, _, _⟩ := M.pure_ok h
      simp only [Op.operands, List.map_cons, List.map_nil, SV.denL, List.cons.injEq, and_true, SV.den] at hargs
      exact same rfl (by simp) (by simp only [execOp, hargs, Sem.run_pure, SV.den]) rfl rfl
  case binOp op t x y yt =>
    match vs, h with
    | [u1, u2], h =>
      obtain ⟨rfl, hb⟩ := binS_ok (φ := φ) (x := x) (y := y) hX h w
      simp only [Op.operands, List.map_cons, List.map_nil, SV.denL, List.cons.injEq, and_true] at hargs
      refine same rfl (by simp) ?_ rfl rfl
      simp only [execOp, hargs.1, hargs.2]
      rw [Sem.run_bind, hb]
      simp
  case unOp op t x =>
    match op, vs, h with
    | .neg, [.int k e], h =>
      obtain ⟨rfl, rfl, _, _⟩ := M.pure_ok h
      simp only [Op.operands, List.map_cons, List.map_nil, SV.denL, List.cons.injEq, and_true, SV.den] at hargs
      exact same rfl (by simp) (by simp [execOp, hargs, Op.unary, Op.intArith]; rfl) rfl (by simp [SV.den, mkArX_den hX, arI, IE.den])
    | .xor, [.int k e], h =>
      obtain ⟨rfl, rfl, _, _⟩ := M.pure_ok h
      simp only [Op.operands, List.map_cons, List.map_nil, SV.denL, List.cons.injEq, and_true, SV.den] at hargs
      refine same rfl (by simp) (x := .int k (arI .xor k (if k.signed then -1 else k.max) (e.den ρ))) ?_ rfl (by simp [SV.den, mkAr_den, IE.den])
      simp only [execOp, hargs, Op.unary, Sem.run_bind, intBits_run (Or.inr (Or.inr (Or.inl rfl))), Result.andThen_ok, Sem.run_pure]
    | .not, [.bool e], h =>
      obtain ⟨rfl, rfl, _, _⟩ := M.pure_ok h
      simp only [Op.operands, List.map_cons, List.map_nil, SV.denL, List.cons.injEq, and_true, SV.den] at hargs
      exact same rfl (by simp) (by simp [execOp, hargs, Op.unary]; rfl) rfl (by simp [SV.den, mkNot_den])
  case convert src dst x =>
    match vs, h with
    | _ :: _ :: _, h => simp [Op.operands, SV.denL] at hargs
    | [u], h =>
      simp only [Op.operands, List.map_cons, List.map_nil, SV.denL, List.cons.injEq, and_true] at hargs
      have key : (∀ k e, u ≠ .int k e) ∨ ∃ k e, u = .int k e := by cases u <;> simp
      rcases key with hne | ⟨k, e, rfl⟩
      · have he : evOp P X call rnd id (.convert src dst x) [u] = convS P X id src dst u := by cases u <;> first | rfl | exact absurd rfl (hne _ _)
        rw [he] at h
        obtain ⟨φ', w', hs, hw⟩ := convS_ok hX h hr
        refine val rfl (by simp) ?_ hs rfl
        simp only [execOp, hargs, Sem.run_bind, hw, Result.andThen_ok, Sem.run_pure]
      · change (match P.underlying src, P.underlying dst with | some _, some (.int l) => pure (.int l (mkWrX X l e)) | _, _ => bad "convert" : M Store SV) st = _ at h
        simp only [SV.den] at hargs
        cases hu1 : P.underlying src with
        | none => simp only [hu1] at h; cases h
        | some d1 =>
          cases hu2 : P.underlying dst with
          | none => simp only [hu1, hu2] at h; cases h
          | some d2 =>
            cases d2 <;> simp only [hu1, hu2] at h <;> try (cases h; done)
            rename_i l
            obtain ⟨rfl, rfl, _, _⟩ := M.pure_ok h
            refine same rfl (by simp) (x := .int l (l.wrap (e.den ρ))) ?_ rfl (by simp only [SV.den, mkWrX_den hX])
            simp [execOp, hargs, convert, run_underlying hu1, run_underlying hu2, Conv.intToInt]
  case makeFunc fn first captured =>
    change (if Nat.beq vs.length (first.size + captured.size) then pure (.func fn (vs.take first.size) (vs.drop first.size)) else bad "makeFunc" : M Store SV) st = _ at h
    split at h
    · rename_i hl
      obtain ⟨rfl, rfl, _, _⟩ := M.pure_ok h
      have e1 : (first.map a.eval) = (SV.denL ρ φ (vs.take first.size)).toArray := by
        have : (SV.denL ρ φ vs).take first.size = (first.map a.eval).toList := by
          rw [← hargs]
          simp [Op.operands]
        apply Array.ext'
        rw [← this]; simp [denL_map, List.map_take]
      have e2 : (captured.map a.eval) = (SV.denL ρ φ (vs.drop first.size)).toArray := by
        have : (SV.denL ρ φ vs).drop first.size = (captured.map a.eval).toList := by
          rw [← hargs]
          simp [Op.operands]
        apply Array.ext'
        rw [← this]; simp [denL_map, List.map_drop]
      refine same rfl (by simp) ?_ rfl rfl
      simp only [execOp, e1, e2, Instr.makeFunc, Sem.run_bind, Sem.run_pure, Result.andThen_ok, SV.den]
    · cases h
  case makeInterface t x =>
    match vs, h with
    | [u], h =>
      change (match P.underlying t with | some (.interface _) => bad "makeInterface" | some _ => pure (.iface t u) | none => bad "makeInterface" : M Store SV) st = _ at h
      simp only [Op.operands, List.map_cons, List.map_nil, SV.denL, List.cons.injEq, and_true] at hargs
      cases hu : P.underlying t with
      | none => simp only [hu] at h; cases h
      | some d =>
        cases d <;> simp only [hu] at h <;> try (cases h; done)
        all_goals
          obtain ⟨rfl, rfl, _, _⟩ := M.pure_ok h
          refine same rfl (by simp) ?_ rfl rfl
          simp [execOp, hargs, Instr.makeInterface, run_underlying hu, SV.den]
  case fieldAddr s x i =>
    match vs, h with
    | [.ptr b off], h =>
      change (match fieldsS P s with | some fs => (match fs[i]? with | some f => (match sizeS P f.type with | some (_ + 1) => pure (.ptr b (off + f.offset)) | _ => bad "fieldAddr") | none => bad "fieldAddr") | none => bad "fieldAddr" : M Store SV) st = _ at h
      simp only [Op.operands, List.map_cons, List.map_nil, SV.denL, List.cons.injEq, and_true, SV.den] at hargs
      cases hf : fieldsS P s with
      | none => simp only [hf] at h; cases h
      | some fs =>
        simp only [hf] at h
        cases hi : fs[i]? with
        | none => simp only [hi] at h; cases h
        | some f =>
          simp only [hi] at h
          cases hs : sizeS P f.type with
          | none => simp only [hs] at h; cases h
          | some n =>
            cases n with
            | zero => simp only [hs] at h; cases h
            | succ n =>
              simp only [hs] at h
              obtain ⟨rfl, rfl, _, _⟩ := M.pure_ok h
              refine same rfl (by simp) ?_ rfl rfl
              simp [execOp, hargs, Instr.fieldAt, run_underlying (fieldsS_ok hf), hi, Instr.sureAddr, fieldPlace, sizeS_run hs, addr_add, SV.den]
    | [.pv b off sz n e c], h =>
      change (match fieldsS P s with | some fs => (match fs[i]? with | some f => (match sizeS P f.type with | some (_ + 1) => pure (.pv b off sz n e (c + f.offset)) | _ => bad "fieldAddr") | none => bad "fieldAddr") | none => bad "fieldAddr" : M Store SV) st = _ at h
      simp only [Op.operands, List.map_cons, List.map_nil, SV.denL, List.cons.injEq, and_true, SV.den] at hargs
      cases hf : fieldsS P s with
      | none => simp only [hf] at h; cases h
      | some fs =>
        simp only [hf] at h
        cases hi : fs[i]? with
        | none => simp only [hi] at h; cases h
        | some f =>
          simp only [hi] at h
          cases hs : sizeS P f.type with
          | none => simp only [hs] at h; cases h
          | some m =>
            cases m with
            | zero => simp only [hs] at h; cases h
            | succ m =>
              simp only [hs] at h
              obtain ⟨rfl, rfl, _, _⟩ := M.pure_ok h
              refine same rfl (by simp) (x := .pointer (some ⟨φ b, off + ((e.den ρ).toNat * sz + (c + f.offset)), none⟩)) ?_ rfl (by simp only [SV.den])
              simp [execOp, hargs, Instr.fieldAt, run_underlying (fieldsS_ok hf), hi, Instr.sureAddr, fieldPlace, sizeS_run hs, addr_add, Nat.add_assoc]
    | [.xp j e c], h =>
      change (match X.xs[j]?, fieldsS P s with | some d, some fs => (match fs[i]? with | some f => (match sizeS P f.type with | some (_ + 1) => (do inX X d e; pure (.xp j e (c + f.offset)) : M Store SV) | _ => bad "fieldAddr") | none => bad "fieldAddr") | _, _ => bad "fieldAddr" : M Store SV) st = _ at h
      cases hd : X.xs[j]? with
      | none => simp only [hd] at h; cases h
      | some d =>
        cases hf : fieldsS P s with
        | none => simp only [hd, hf] at h; cases h
        | some fs =>
          simp only [hd, hf] at h
          cases hi : fs[i]? with
          | none => simp only [hi] at h; cases h
          | some f =>
            simp only [hi] at h
            cases hs : sizeS P f.type with
            | none => simp only [hs] at h; cases h
            | some n =>
              cases n with
              | zero => simp only [hs] at h; cases h
              | succ n =>
                simp only [hs] at h
                obtain ⟨_, s1, _, _, _, _, h1, h2, _, _⟩ := M.bind_ok h
                obtain ⟨rfl, B, hB, x1, x2, x3, x4, x5, x6⟩ := inX_ok hX hd h1
                obtain ⟨rfl, rfl, _, _⟩ := M.pure_ok h2
                simp only [Op.operands, List.map_cons, List.map_nil, SV.denL, List.cons.injEq, and_true, SV.den, hB, xpV] at hargs
                refine same rfl (by simp) (x := .pointer (some ⟨B.blk, B.off + ((e.den ρ).toNat * B.sz + (c + f.offset)), none⟩)) ?_ rfl (by simp only [SV.den, hB, xpV])
                simp [execOp, hargs, Instr.fieldAt, run_underlying (fieldsS_ok hf), hi, Instr.sureAddr, fieldPlace, sizeS_run hs, addr_add, Nat.add_assoc]
  case indexAddr t x i =>
    match vs, h with
    | [.ptr b off, .int k e], h =>
      change (match P.underlying t with | some (.array len elem) => (match sizeS P elem with | some n => addrS X len n b off e | none => bad "indexAddr") | _ => bad "indexAddr" : M Store SV) st = _ at h
      simp only [Op.operands, List.map_cons, List.map_nil, SV.denL, List.cons.injEq, and_true, SV.den] at hargs
      cases hu : P.underlying t with
      | none => simp only [hu] at h; cases h
      | some d =>
        cases d <;> simp only [hu] at h <;> try (cases h; done)
        rename_i len elem
        cases hs : sizeS P elem with
        | none => simp only [hs] at h; cases h
        | some n =>
          simp only [hs] at h
          obtain ⟨rfl, j, e1, hlt, e2, hp⟩ := addrS_ok (φ := φ) hX h
          refine same rfl (by simp) (x := .pointer (some ⟨φ b, off + j * n, none⟩)) ?_ rfl e2.symm
          simp only [execOp, hargs.1, hargs.2, Sem.run_bind, indexAt_run hs e1 hlt _ (.inl ⟨len, hu, rfl, rfl⟩) w, Result.andThen_ok, Sem.run_pure, addr_add]
    | [.slice b off len c, .int k e], h =>
      change (match P.underlying t with | some (.slice elem) => (match sizeS P elem with | some n => addrS X len n b off e | none => bad "indexAddr") | _ => bad "indexAddr" : M Store SV) st = _ at h
      simp only [Op.operands, List.map_cons, List.map_nil, SV.denL, List.cons.injEq, and_true, SV.den] at hargs
      cases hu : P.underlying t with
      | none => simp only [hu] at h; cases h
      | some d =>
        cases d <;> simp only [hu] at h <;> try (cases h; done)
        rename_i elem
        cases hs : sizeS P elem with
        | none => simp only [hs] at h; cases h
        | some n =>
          simp only [hs] at h
          obtain ⟨rfl, j, e1, hlt, e2, hp⟩ := addrS_ok (φ := φ) hX h
          refine same rfl (by simp) (x := .pointer (some ⟨φ b, off + j * n, none⟩)) ?_ rfl e2.symm
          simp only [execOp, hargs.1, hargs.2, Sem.run_bind, indexAt_run hs e1 hlt _ (.inr ⟨c, hu, rfl⟩) w, Result.andThen_ok, Sem.run_pure, addr_add]
    | [.sl b sz len d, .int k e], h =>
      change (match P.underlying t with | some (.slice elem) => (match sizeS P elem with | some n => (if Nat.beq n sz then addrS X len n b (d * sz) e else bad "indexAddr" : M Store SV) | none => bad "indexAddr") | _ => bad "indexAddr" : M Store SV) st = _ at h
      simp only [Op.operands, List.map_cons, List.map_nil, SV.denL, List.cons.injEq, and_true, SV.den] at hargs
      cases hu : P.underlying t with
      | none => simp only [hu] at h; cases h
      | some d0 =>
        cases d0 <;> simp only [hu] at h <;> try (cases h; done)
        rename_i elem
        cases hs : sizeS P elem with
        | none => simp only [hs] at h; cases h
        | some n =>
          simp only [hs] at h
          split at h
          · rename_i hn'
            have hn' : n = sz := by simpa using hn'
            subst hn'
            obtain ⟨rfl, j, e1, hlt, e2, hp⟩ := addrS_ok (φ := φ) hX h
            refine same rfl (by simp) (x := .pointer (some ⟨φ b, d * n + j * n, none⟩)) ?_ rfl e2.symm
            simp only [execOp, hargs.1, hargs.2, Sem.run_bind, indexAt_run hs e1 hlt _ (.inr ⟨_, hu, rfl⟩) w, Result.andThen_ok, Sem.run_pure, addr_add]
          · cases h
    | [.xs q, .int k e], h =>
      change (match P.underlying t, X.xs[q]? with | some (.slice elem), some d => (match sizeS P elem with | some n => (if Nat.beq n d.ks.length then do inX X d e; pure (.xp q e 0) else bad "indexAddr" : M Store SV) | none => bad "indexAddr") | _, _ => bad "indexAddr" : M Store SV) st = _ at h
      cases hd : X.xs[q]? with
      | none =>
        cases hu : P.underlying t with
        | none => simp only [hu] at h; cases h
        | some desc => cases desc <;> simp only [hu, hd] at h <;> cases h
      | some d =>
        cases hu : P.underlying t with
        | none => simp only [hu] at h; cases h
        | some desc =>
          cases desc <;> simp only [hu, hd] at h <;> try (cases h; done)
          rename_i elem
          cases hs : sizeS P elem with
          | none => simp only [hs] at h; cases h
          | some n =>
            simp only [hs] at h
            split at h
            · rename_i hnn
              have hnk : n = d.ks.length := by simpa using hnn
              obtain ⟨_, s1, _, _, _, _, h1, h2, _, _⟩ := M.bind_ok h
              obtain ⟨rfl, B, hB, x1, x2, x3, x4, x5, x6⟩ := inX_ok hX hd h1
              obtain ⟨rfl, rfl, _, _⟩ := M.pure_ok h2
              simp only [Op.operands, List.map_cons, List.map_nil, SV.denL, List.cons.injEq, and_true, SV.den, hB, xsV, x6] at hargs
              refine same rfl (by simp) (x := .pointer (some ⟨B.blk, B.off + ((e.den ρ).toNat * B.sz + 0), none⟩)) ?_ rfl (by simp only [SV.den, hB, xpV])
              have hix := indexAt_run (k := k) (a := ⟨B.blk, B.off, none⟩) hs (show e.den ρ = ((e.den ρ).toNat : Nat) by omega) x4 _ (.inr ⟨B.cap, hu, rfl⟩) w
              simp only [execOp, hargs.1, hargs.2, Sem.run_bind, hix, Result.andThen_ok, Sem.run_pure, addr_add, hnk, x2, Nat.add_zero]
            · cases h
  case slice t x lo hi mx =>
    change (match sliceArgs lo hi mx vs with | some (x, l, h) => (do capS x; match sliceS P t x l h with | some v => pure v | none => bad "slice" : M Store SV) | none => bad "slice") st = _ at h
    cases ha : sliceArgs lo hi mx vs with
    | none => simp only [ha] at h; cases h
    | some q =>
      obtain ⟨xv, l, hh⟩ := q
      simp only [ha] at h
      obtain ⟨_, s1, _, _, _, _, h1, h2, _, _⟩ := M.bind_ok h
      obtain ⟨rfl, hcap⟩ := capS_ok h1 hr
      cases hs : sliceS P t xv l hh with
      | none => simp only [hs] at h2; cases h2
      | some u =>
        simp only [hs] at h2
        obtain ⟨rfl, rfl, _, _⟩ := M.pure_ok h2
        refine same rfl (by simp) ?_ rfl rfl
        obtain ⟨e1, e2, e3, e4⟩ := sliceArgs_ok (ρ := ρ) (φ := φ) (a := a) ha hargs
        simp only [execOp, e1, e2, e3, e4, Sem.run_bind, sliceS_ok hs hcap w, Result.andThen_ok, Sem.run_pure]
  case field t x i =>
    match vs, h with
    | [.agg cs], h =>
      change (match fieldsS P t with | some fs => (match fs[i]? with | some f => (match partS P f.type cs f.offset with | some v => pure v | none => bad "field") | none => bad "field") | none => bad "field" : M Store SV) st = _ at h
      simp only [Op.operands, List.map_cons, List.map_nil, SV.denL, List.cons.injEq, and_true, SV.den] at hargs
      cases hf : fieldsS P t with
      | none => simp only [hf] at h; cases h
      | some fs =>
        simp only [hf] at h
        cases hi : fs[i]? with
        | none => simp only [hi] at h; cases h
        | some f =>
          simp only [hi] at h
          cases hp : partS P f.type cs f.offset with
          | none => simp only [hp] at h; cases h
          | some u =>
            simp only [hp] at h
            obtain ⟨rfl, rfl, _, _⟩ := M.pure_ok h
            refine same rfl (by simp) ?_ rfl rfl
            simp [execOp, hargs, Instr.field, run_underlying (fieldsS_ok hf), hi, asAgg, partS_run (ρ := ρ) (φ := φ) hp]
  case index t x i =>
    match vs, h with
    | [.agg cs, .int k e], h =>
      change (match P.underlying t with | some (.array len elem) => (match sizeS P elem with | some n => (do let j ← place X e len; match partS P elem cs (j * n) with | some v => pure v | none => bad "index" : M Store SV) | none => bad "index") | _ => bad "index" : M Store SV) st = _ at h
      simp only [Op.operands, List.map_cons, List.map_nil, SV.denL, List.cons.injEq, and_true, SV.den] at hargs
      cases hu : P.underlying t with
      | none => simp only [hu] at h; cases h
      | some d =>
        cases d <;> simp only [hu] at h <;> try (cases h; done)
        rename_i len elem
        cases hs : sizeS P elem with
        | none => simp only [hs] at h; cases h
        | some n =>
          simp only [hs] at h
          obtain ⟨j, s1, _, _, _, _, h1, h2, _, _⟩ := M.bind_ok h
          obtain ⟨e1, hlt, rfl⟩ := place_ok hX h1
          cases hp : partS P elem cs (j * n) with
          | none => simp only [hp] at h2; cases h2
          | some u =>
            simp only [hp] at h2
            obtain ⟨rfl, rfl, _, _⟩ := M.pure_ok h2
            refine same rfl (by simp) ?_ rfl rfl
            simp [execOp, hargs, Instr.index, asIntOf, run_underlying hu, e1, hlt, sizeS_run hs, partS_run (ρ := ρ) (φ := φ) hp]
    | [.raw (.string s), .int k e], h =>
      change (match P.underlying t with | some .string => (do
        let neg ← decI X .lss e (.lit 0)
        let big ← decI X .lss e (.lit s.size)
        if !neg && big then pure (.int .u8 (mkTab (s.data.toList.map UInt8.toNat) e)) else bad "index" : M Store SV) | _ => bad "index") st = _ at h
      simp only [Op.operands, List.map_cons, List.map_nil, SV.denL, List.cons.injEq, and_true, SV.den] at hargs
      cases hu : P.underlying t with
      | none => simp only [hu] at h; cases h
      | some d =>
        cases d <;> simp only [hu] at h <;> try (cases h; done)
        obtain ⟨neg, s1, _, _, _, _, h1, h2, _, _⟩ := M.bind_ok h
        obtain ⟨e1, rfl⟩ := decI_ok hX h1
        obtain ⟨big, s2, _, _, _, _, h3, h4, _, _⟩ := M.bind_ok h2
        obtain ⟨e2, rfl⟩ := decI_ok hX h3
        split at h4
        · rename_i hc
          simp only [Bool.and_eq_true, Bool.not_eq_true'] at hc
          obtain ⟨rfl, rfl⟩ := hc
          obtain ⟨rfl, rfl, _, _⟩ := M.pure_ok h4
          have l0 : ¬ e.den ρ < 0 := of_decide_eq_false e1
          have l1 : e.den ρ < s.size := of_decide_eq_true e2
          have hlt : (e.den ρ).toNat < s.size := by omega
          refine same rfl (by simp) (x := .int .u8 (tabI (s.data.toList.map UInt8.toNat) (e.den ρ))) ?_ rfl (by unfold mkTab; split <;> rfl)
          have hg : s[(e.den ρ).toNat]? = some s[(e.den ρ).toNat] := by simp [hlt]
          have ht : tabI (s.data.toList.map UInt8.toNat) (e.den ρ) = (s[(e.den ρ).toNat]).toNat := by
            unfold tabI
            rw [List.getD_eq_getElem?_getD, List.getElem?_map]
            have : s.data.toList[(e.den ρ).toNat]? = some s[(e.den ρ).toNat] := by
              rw [List.getElem?_eq_getElem (by simpa using hlt)]; rfl
            rw [this]; rfl
          simp only [execOp, hargs.1, hargs.2, Instr.index, asIntOf, Sem.run_bind, Sem.run_pure, Result.andThen_ok, run_underlying hu, if_pos (show 0 ≤ e.den ρ by omega), hg, ht]
        · cases h4
    | [.bts l, .int k e], h =>
      change (match P.underlying t with | some .string => (do let j ← place X e l.length; match l[j]? with | some b => if fits X .u8 b then pure (.int .u8 b) else bad "index" | none => bad "index" : M Store SV) | _ => bad "index") st = _ at h
      simp only [Op.operands, List.map_cons, List.map_nil, SV.denL, List.cons.injEq, and_true, SV.den] at hargs
      cases hu : P.underlying t with
      | none => simp only [hu] at h; cases h
      | some d =>
        cases d <;> simp only [hu] at h <;> try (cases h; done)
        obtain ⟨j, s1, _, _, _, _, h1, h2, _, _⟩ := M.bind_ok h
        obtain ⟨e1, hlt, rfl⟩ := place_ok hX h1
        cases hj : l[j]? with
        | none => simp only [hj] at h2; cases h2
        | some b =>
          simp only [hj] at h2
          split at h2
          · rename_i hf
            obtain ⟨rfl, rfl, _, _⟩ := M.pure_ok h2
            have hb := fits_ok hX hf
            have hb1 : IntKind.u8.min = 0 := by decide
            have hb2 : IntKind.u8.max = 255 := by decide
            refine same rfl (by simp) ?_ rfl rfl
            have hsz : j < (bytesI (l.map (IE.den ρ))).size := by simp [bytesI_eq, ByteArray.size_mk']; exact hlt
            have hg : (bytesI (l.map (IE.den ρ)))[j]? = some (toB (b.den ρ)) := by
              rw [ByteArray.getElem?_lt' _ _ hsz]
              congr 1
              have h3 : (bytesI (l.map (IE.den ρ))).data.toList[j]? = some (toB (b.den ρ)) := by simp [bytesI_eq, hj]
              have h4 : (bytesI (l.map (IE.den ρ))).data.toList[j]? = some (bytesI (l.map (IE.den ρ)))[j] := by
                rw [List.getElem?_eq_getElem (by simpa using hsz)]; rfl
              rw [h4] at h3
              exact Option.some.inj h3
            simp only [execOp, hargs.1, hargs.2, Instr.index, asIntOf, Sem.run_bind, Sem.run_pure, Result.andThen_ok, run_underlying hu, e1, if_pos (Int.natCast_nonneg j), Int.toNat_natCast, hg, toB_toNat (show 0 ≤ b.den ρ ∧ b.den ρ ≤ 255 by omega), SV.den]
          · cases h2
  case makeSlice t lx cx =>
    match vs, h with
    | [.int kl l, .int kc c], h =>
      change (match litN l, litN c with | some l, some c => makeSliceS P id t l c | _, _ => bad "makeSlice") st = _ at h
      simp only [Op.operands, List.map_cons, List.map_nil, SV.denL, List.cons.injEq, and_true, SV.den] at hargs
      cases hl : litN l with
      | none => simp only [hl] at h; cases h
      | some ln =>
        cases hcn : litN c with
        | none => simp only [hl, hcn] at h; cases h
        | some cn =>
          simp only [hl, hcn] at h
          have e1 : l.den ρ = (ln : Int) := by unfold litN at hl; split at hl <;> cases hl; rfl
          have e2 : c.den ρ = (cn : Int) := by unfold litN at hcn; split at hcn <;> cases hcn; rfl
          obtain ⟨φ', w', hs, hw⟩ := makeSliceS_ok h hr (kl := kl) (kc := kc)
          refine val rfl (by simp) ?_ hs rfl
          simp only [execOp, hargs.1, hargs.2, e1, e2, Sem.run_bind, hw, Result.andThen_ok, Sem.run_pure]
  case makeMap t rs =>
    have mk : ∀ {u : Unit} {s1 : Store} {r1 w1 : List Loc}, newB id ⟨0, [.mark 0 0 [] id]⟩ st = .ok u s1 r1 w1 → ∃ φ', Step P ρ E w0 φ st φ' s1 (w.alloc (.map #[] 0)) ∧ φ' id = w.heap.size := by
      intro u s1 r1 w1 h1
      obtain ⟨hid, hz', rfl⟩ := newB_ok h1
      refine ⟨_, hr.newO id 0 ⟨0, [.mark 0 0 [] id]⟩ (.map #[] 0) hid hz' (fun c hc => .inr (by simpa [SV.idsL, SV.ids] using hc)) ?_, named_id⟩
      exact ⟨#[], 0, rfl, .nil, .nil⟩
    match rs, vs, h with
    | none, [], h =>
      obtain ⟨_, s1, _, _, _, _, h1, h2, _, _⟩ := M.bind_ok h
      obtain ⟨rfl, rfl, _, _⟩ := M.pure_ok h2
      obtain ⟨φ', hs, hnew⟩ := mk h1
      refine val rfl (by simp) (x := .map (some w.heap.size)) ?_ hs (by simp [SV.den, hnew])
      simp [execOp, Instr.makeMap]
    | some rx, [.int k e], h =>
      change (match P.underlying t with | some (.map _ _) => (do newB id ⟨0, [.mark 0 0 [] id]⟩; pure (.mp id) : M Store SV) | _ => bad "makeMap") st = _ at h
      simp [Op.operands, SV.denL, SV.den] at hargs
      cases hu : P.underlying t with
      | none => simp only [hu] at h; cases h
      | some d =>
        cases d <;> simp only [hu] at h <;> try (cases h; done)
        obtain ⟨_, s1, _, _, _, _, h1, h2, _, _⟩ := M.bind_ok h
        obtain ⟨rfl, rfl, _, _⟩ := M.pure_ok h2
        obtain ⟨φ', hs, hnew⟩ := mk h1
        refine val rfl (by simp) (x := .map (some w.heap.size)) ?_ hs (by simp [SV.den, hnew])
        simp [execOp, Instr.makeMap, run_underlying hu, hargs, asInt, asIntOf]
  case insert t m k x =>
    match vs, h with
    | [.mp b, kv, v1], h =>
      obtain ⟨rfl, w', hs, hw⟩ := insertS_ok hX (show insertS P X t b kv v1 st = .ok v st' r wl from h) hr
      simp only [Op.operands, List.map_cons, List.map_nil, SV.denL, List.cons.injEq, and_true, SV.den] at hargs
      refine wp_skip' (w' := w') (by simp) ?_ (hn _ _ hs)
      simp only [execOp, hargs.1, hargs.2.1, hargs.2.2, Sem.run_bind, Sem.run_pure, Result.andThen_ok, hw]
  case mapUpdate t m k x =>
    match vs, h with
    | [.mp b, kv, v1], h =>
      obtain ⟨rfl, w', hs, hw⟩ := insertS_ok hX (show insertS P X t b kv v1 st = .ok v st' r wl from h) hr
      simp only [Op.operands, List.map_cons, List.map_nil, SV.denL, List.cons.injEq, and_true, SV.den] at hargs
      refine wp_skip' (w' := w') (by simp) ?_ (hn _ _ hs)
      simp only [execOp, hargs.1, hargs.2.1, hargs.2.2, Sem.run_bind, Sem.run_pure, Result.andThen_ok, hw]
  case lookup t m k ok =>
    match vs, h with
    | [.mp b, kv], h =>
      obtain ⟨rfl, hw⟩ := lookupS_ok hX (show lookupS P X t b kv ok st = .ok v st' r wl from h) hr
      simp only [Op.operands, List.map_cons, List.map_nil, SV.denL, List.cons.injEq, and_true, SV.den] at hargs
      refine same rfl (by simp) ?_ rfl rfl
      simp only [execOp, hargs.1, hargs.2, Sem.run_bind, Sem.run_pure, Result.andThen_ok, hw]
  case typeAssert x xt at_ ok =>
    match vs, h with
    | [u], h =>
      change (match typeAssertS P at_ ok u with | some v => pure v | none => bad "typeAssert" : M Store SV) st = _ at h
      cases hta : typeAssertS P at_ ok u with
      | none => simp only [hta] at h; cases h
      | some y =>
        simp only [hta] at h
        obtain ⟨rfl, rfl, _, _⟩ := M.pure_ok h
        simp only [Op.operands, List.map_cons, List.map_nil, SV.denL, List.cons.injEq, and_true] at hargs
        refine same rfl (by simp) ?_ rfl rfl
        simp only [execOp, hargs, Sem.run_bind, Sem.run_pure, Result.andThen_ok, typeAssertS_ok hta]
  case panic x =>
    match vs, h with
    | [.iface t u], h =>
      obtain ⟨rfl, rfl, _, _⟩ := M.pure_ok h
      simp only [Op.operands, List.map_cons, List.map_nil, SV.denL, List.cons.injEq, and_true, SV.den] at hargs
      refine wp_panic' (by simp) ?_ (hn φ w (Step.refl hr))
      simp [execOp, hargs, Instr.panic, goPanic, SV.den]
  case extract x i =>
    match vs, h with
    | [.tuple us], h =>
      change (match us[i]? with | some v => pure v | none => bad "extract" : M Store SV) st = _ at h
      simp only [Op.operands, List.map_cons, List.map_nil, SV.denL, List.cons.injEq, and_true, SV.den] at hargs
      cases hi : us[i]? with
      | none => simp only [hi] at h; cases h
      | some u =>
        simp only [hi] at h
        obtain ⟨rfl, rfl, _, _⟩ := M.pure_ok h
        refine same rfl (by simp) ?_ rfl rfl
        simp [execOp, hargs, Instr.extract, denL_map, hi]
  case call c =>
    obtain ⟨callee, args, ts⟩ := c
    match callee, vs, h with
    | .builtin b, vs, h =>
      have hargs' : args.map a.eval = (SV.denL ρ φ vs).toArray := by
        apply Array.ext'
        have h0 := hargs
        simp [Op.operands, Call.operands] at h0 ⊢
        exact h0
      obtain ⟨φ', w', hs, hb⟩ := builtinS_ok hX (show builtinS P X b id ts vs st = .ok v st' r wl from h) hr type
      refine val rfl (by simp) ?_ hs rfl
      simp only [execOp, resolve, hargs', Sem.run_bind, Sem.run_pure, Result.andThen_ok, invoke]
      exact hb _
    | .value fx, .func (.func f) fs cs :: us, h =>
      simp [Op.operands, Call.operands, SV.denL, SV.den] at hargs
      have hargs' : args.map a.eval = (SV.denL ρ φ us).toArray := Array.ext' (by simp [hargs.2])
      refine calls (by simp) (f := f) (args := fs ++ us ++ cs) h (fun w' => ?_)
      simp only [execOp, resolve, hargs.1, hargs', Deferred.ofValue, Sem.run_bind, Sem.run_pure, Result.andThen_ok, invoke, List.append_toArray, denL_append]
    | .value fx, .yld b :: us, h =>
      simp [Op.operands, Call.operands, SV.denL, SV.den] at hargs
      have hargs' : args.map a.eval = (SV.denL ρ φ us).toArray := Array.ext' (by simp [hargs.2])
      obtain ⟨f, tmps, as, bd, h1, h2, h3⟩ := hrn _ _ _ _ _ _ _ _ (show rnd b us id st = .ok v st' r wl from h) w0 φ w hr
      refine wp_round' (by simp) (l := φ b) (f := f) (tmps := tmps) (as := as) (body := bd) ?_ ((h3 rd).mono ?_)
      · simp only [execOp, resolve, hargs.1, hargs', Deferred.ofValue, Sem.run_bind, Sem.run_pure, Result.andThen_ok, invoke, Array.empty_append]
        exact h1
      · rintro e w' ⟨φ', hs, rfl⟩
        exact ⟨_, rfl, (outc_put h2).1 (hn _ _ hs)⟩
    | .invoke rx name, .iface t u :: us, h =>
      change (match methodS P t name with | some f => call f (u :: us) id | none => bad "invoke" : M Store SV) st = _ at h
      simp [Op.operands, Call.operands, SV.denL, SV.den] at hargs
      have hargs' : args.map a.eval = (SV.denL ρ φ us).toArray := Array.ext' (by simp [hargs.2])
      cases hm : methodS P t name with
      | none => simp only [hm] at h; cases h
      | some f =>
        simp only [hm] at h
        refine calls (by simp) (f := f) (args := u :: us) h (fun w' => ?_)
        have hmr := method_run (v := u.den ρ φ) hm (P.types.size + Made.depth - 1) w'
        rw [show P.types.size + Made.depth - 1 + 1 = P.types.size + Made.depth by unfold Made.depth; omega] at hmr
        simp [execOp, resolve, hargs.1, hargs', invoke, callMethod, program, Sem.run, hmr, SV.denL]
  all_goals (cases h; done)
end Ev
end Go.Proofs.Ytmgfnejiienghaa
