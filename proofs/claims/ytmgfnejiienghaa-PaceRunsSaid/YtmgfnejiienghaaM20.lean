/- A checked evaluator: two operands. -/
import Derived.Test.YtmgfnejiienghaaM19
import Derived.Laws.Strings3
import Derived.Laws.Concat
import Derived.Laws.IdiomStrings
namespace Go.Proofs.Ytmgfnejiienghaa
open Go Go.RowKit
set_option linter.unusedVariables false
namespace Ev
variable {P : Program} {ρ : Env} {E : List (Nat × Nat)} {w0 : World} {φ : Nat → Nat} {st : Store} {w : World}

theorem part_one {t : TypeId} {xs : Array Value} {off : Nat} {v : Value} (ha : aggS P t = some false) (hv : xs[off]? = some v) (w : World) : (part t xs off).run P w = .ok v w := by
  simp [part, isAgg_run ha, hv]
theorem part_agg {t : TypeId} {xs : List Value} {off n : Nat} (ha : aggS P t = some true) (hs : sizeS P t = some n) (w : World) : (part t xs.toArray off).run P w = .ok (.agg ((xs.drop off).take n).toArray) w := by
  simp [part, isAgg_run ha, sizeS_run hs, List.extract_eq_take_drop]
theorem partS_run {t : TypeId} {cs : List SV} {off : Nat} {v : SV} (h : partS P t cs off = some v) (w : World) : (part t (SV.denL ρ φ cs).toArray off).run P w = .ok (v.den ρ φ) w := by
  unfold partS at h
  cases ha : aggS P t with
  | none => simp [ha] at h
  | some x =>
    cases x with
    | true =>
      simp only [ha] at h
      cases hs : sizeS P t with
      | none => simp [hs] at h
      | some n =>
        simp only [hs, Option.map_some, Option.some.injEq] at h
        subst h
        rw [part_agg ha hs]
        simp [SV.den, denL_map, List.map_take, List.map_drop]
    | false =>
      simp only [ha] at h
      exact part_one ha (by rw [denL_map]; simp [h]) w
theorem eq_int {d : Nat} {t : TypeId} {k k' : IntKind} {a b : Int} (hu : P.underlying t = some (.int k')) (w : World) : (Op.equalIn (d + 1) t (.int k a) (.int k b)).run P w = .ok (a == b) w := by
  simp [Op.equalIn, run_underlying hu]
theorem eq_bool {d : Nat} {t : TypeId} {a b : Bool} (hu : P.underlying t = some .bool) (w : World) : (Op.equalIn (d + 1) t (.bool a) (.bool b)).run P w = .ok (a == b) w := by
  simp [Op.equalIn, run_underlying hu]
/-- one round of the comparison of two structs -/
def eqBody (d : Nat) (xs ys : Array Value) (f : Field) (__s : Option Bool × Unit) : Sem (ForInStep (Option Bool × Unit)) :=
  if f.name ≠ "_" then do
    let a ← part f.type xs f.offset
    let b ← part f.type ys f.offset
    let c ← Op.equalIn d f.type a b
    if (!c) = true then pure (ForInStep.done (some false, ())) else pure (ForInStep.yield (none, ()))
  else pure (ForInStep.yield (none, ()))
theorem eq_fields (d : Nat) (xs ys : Array Value) : ∀ (fs : List Field) (cs ds : List SV) (off : Nat) (e : BE), plainFields P fs off cs = true → plainFields P fs off ds = true → eqCells cs ds = some e →
    (∀ (j : Nat) v, (SV.denL ρ φ cs)[j]? = some v → xs[off + j]? = some v) → (∀ (j : Nat) v, (SV.denL ρ φ ds)[j]? = some v → ys[off + j]? = some v) →
    (forIn fs (none, ()) (eqBody (d + 1) xs ys)).run P w = .ok (if e.den ρ then (none, ()) else (some false, ())) w
  | [], cs, ds, off, e, h1, h2, he, _, _ => by
    cases cs <;> cases ds <;> simp_all [plainFields, eqCells]
    subst he
    simp [BE.den]
  | f :: fs, [], ds, off, e, h1, h2, he, _, _ => by simp [plainFields] at h1
  | f :: fs, c :: cs, [], off, e, h1, h2, he, _, _ => by simp [plainFields] at h2
  | f :: fs, c :: cs, d1 :: ds, off, e, h1, h2, he, hx, hy => by
    simp only [plainFields, Bool.and_eq_true, bne_iff_ne, ne_eq, Nat.beq_eq] at h1 h2
    obtain ⟨⟨⟨hn, ho⟩, hk1⟩, h1⟩ := h1
    obtain ⟨⟨_, hk2⟩, h2⟩ := h2
    have hx0 := hx 0 (c.den ρ φ) (by simp [SV.denL])
    have hy0 := hy 0 (d1.den ρ φ) (by simp [SV.denL])
    rw [Nat.add_zero, ← ho] at hx0 hy0
    have hx' : ∀ (j : Nat) v, (SV.denL ρ φ cs)[j]? = some v → xs[off + 1 + j]? = some v := fun j v hv => by
      have := hx (j + 1) v (by simpa [SV.denL] using hv)
      rwa [show off + 1 + j = off + (j + 1) by omega]
    have hy' : ∀ (j : Nat) v, (SV.denL ρ φ ds)[j]? = some v → ys[off + 1 + j]? = some v := fun j v hv => by
      have := hy (j + 1) v (by simpa [SV.denL] using hv)
      rwa [show off + 1 + j = off + (j + 1) by omega]
    have key : ∀ (x : Bool) (e' : BE), eqCells cs ds = some e' → aggS P f.type = some false → (∀ w, (Op.equalIn (d + 1) f.type (c.den ρ φ) (d1.den ρ φ)).run P w = .ok x w) → e.den ρ = (x && e'.den ρ) →
        (forIn (f :: fs) (none, ()) (eqBody (d + 1) xs ys)).run P w = .ok (if e.den ρ then (none, ()) else (some false, ())) w := by
      intro x e' he' ha hq hed
      have ih := eq_fields d xs ys fs cs ds (off + 1) e' h1 h2 he' hx' hy'
      have hb : (eqBody (d + 1) xs ys f (none, ())).run P w = .ok (if x then ForInStep.yield (none, ()) else ForInStep.done (some false, ())) w := by
        unfold eqBody
        rw [if_pos hn]
        simp only [Sem.run_bind, part_one ha hx0, part_one ha hy0, Result.andThen_ok, hq]
        cases x <;> simp
      rw [List.forIn_cons, Sem.run_bind, hb, Result.andThen_ok, hed]
      cases x with
      | true => simp only [Bool.true_and]; exact ih
      | false => simp
    cases c with
    | int k a =>
      cases d1 with
      | int l b =>
        simp only [eqCells] at he
        split at he
        · rename_i hkl
          subst hkl
          cases hq : P.underlying f.type with
          | none => simp [hq] at hk1
          | some desc =>
            cases hc : eqCells cs ds with
            | none => simp [hc] at he
            | some e' =>
              simp only [hc, Option.map_some, Option.some.injEq] at he
              subst he
              cases desc <;> simp [hq] at hk1
              rename_i kk
              exact key _ e' hc (by simp [aggS, hq, aggD]) (fun w => eq_int hq w) (by rw [mkAnd_den, mkCmp_den]; rfl)
        · cases he
      | _ => simp [eqCells] at he
    | bool a =>
      cases d1 with
      | bool b =>
        simp only [eqCells] at he
        cases hq : P.underlying f.type with
        | none => simp [hq] at hk1
        | some desc =>
          cases hc : eqCells cs ds with
          | none => simp [hc] at he
          | some e' =>
            simp only [hc, Option.map_some, Option.some.injEq] at he
            subst he
            cases desc <;> simp [hq] at hk1
            exact key _ e' hc (by simp [aggS, hq, aggD]) (fun w => eq_bool hq w) (by rw [mkAnd_den, mkEqb_den])
      | _ => simp [eqCells] at he
    | _ => cases d1 <;> simp [eqCells] at he
theorem eq_structD (d : Nat) {t : TypeId} {fs : Array Field} {as bs : List SV} {e : BE} (hu : P.underlying t = some (.struct fs)) (h1 : plainFields P fs.toList 0 as = true) (h2 : plainFields P fs.toList 0 bs = true) (he : eqCells as bs = some e)
    (hs : P.stoodInHeld t = false) (w : World) : (Op.equalIn (d + 1 + 1) t (.agg (SV.denL ρ φ as).toArray) (.agg (SV.denL ρ φ bs).toArray)).run P w = .ok (e.den ρ) w := by
  have := eq_fields (P := P) (ρ := ρ) (φ := φ) (w := w) d (SV.denL ρ φ as).toArray (SV.denL ρ φ bs).toArray fs.toList as bs 0 e h1 h2 he (fun j v h => by simpa using h) (fun j v h => by simpa using h)
  have hfor : (forIn fs (none, ()) (eqBody (d + 1) (SV.denL ρ φ as).toArray (SV.denL ρ φ bs).toArray)).run P w = .ok (if e.den ρ then (none, ()) else (some false, ())) w := by
    rw [← Array.forIn_toList]; exact this
  rw [Op.equalIn]
  simp only [Sem.run_bind, run_underlying hu, Result.andThen_ok, program, Sem.run, hs, Bool.false_eq_true, if_false]
  change ((forIn fs (none, ()) (eqBody (d + 1) (SV.denL ρ φ as).toArray (SV.denL ρ φ bs).toArray)).run P w).andThen _ = _
  rw [hfor]
  cases e.den ρ <;> simp
theorem eq_struct {t : TypeId} {fs : Array Field} {as bs : List SV} {e : BE} (hu : P.underlying t = some (.struct fs)) (h1 : plainFields P fs.toList 0 as = true) (h2 : plainFields P fs.toList 0 bs = true) (he : eqCells as bs = some e)
    (hs : P.stoodInHeld t = false) (w : World) : (Op.equal t (.agg (SV.denL ρ φ as).toArray) (.agg (SV.denL ρ φ bs).toArray)).run P w = .ok (e.den ρ) w := eq_structD 9998 hu h1 h2 he hs w

theorem eqlS_ok {op : BinOp} {e : BE} {v : SV} (h : eqlS op e = some v) : (op = .eql ∧ v = .bool e) ∨ (op = .neq ∧ v = .bool (mkNot e)) := by
  unfold eqlS at h
  split at h <;> simp_all
theorem forIn_andO {α : Type} {body : α → Option Bool × Unit → Sem (ForInStep (Option Bool × Unit))} {g : α → Option BE} : ∀ (l : List α) {e : BE}, andO (l.map g) = some e →
    (∀ a ∈ l, ∀ b, g a = some b → (body a (none, ())).run P w = .ok (if b.den ρ then ForInStep.yield (none, ()) else ForInStep.done (some false, ())) w) →
    (forIn l (none, ()) body).run P w = .ok (if e.den ρ then (none, ()) else (some false, ())) w
  | [], e, h, _ => by
    simp only [List.map_nil, andO, Option.some.injEq] at h
    subst h
    simp [BE.den]
  | a :: l, e, h, hb => by
    simp only [List.map_cons] at h
    cases ha : g a with
    | none => simp [ha, andO] at h
    | some b =>
      simp only [ha, andO, Option.map_eq_some_iff] at h
      obtain ⟨e', h', rfl⟩ := h
      have ih := forIn_andO l h' (fun a' h2 b' h3 => hb a' (List.mem_cons_of_mem _ h2) b' h3)
      rw [List.forIn_cons, Sem.run_bind, hb a (List.mem_cons_self ..) b ha, Result.andThen_ok, mkAnd_den]
      cases hbd : b.den ρ with
      | true => simp only [if_true, Bool.true_and]; exact ih
      | false => simp
theorem eqP_some {rec : TypeId → SV → SV → Option BE} {t : TypeId} {xs ys : List SV} {off : Nat} {e : BE} (h : eqP P rec t xs ys off = some e) : ∃ a b, partS P t xs off = some a ∧ partS P t ys off = some b ∧ rec t a b = some e := by
  unfold eqP at h
  cases h1 : partS P t xs off with
  | none => simp [h1] at h
  | some a =>
    cases h2 : partS P t ys off with
    | none => simp [h1, h2] at h
    | some b => simp only [h1, h2] at h; exact ⟨a, b, rfl, rfl, h⟩
/-- one round of the comparison of two arrays -/
def eqArr (d : Nat) (elem : TypeId) (n : Nat) (xs ys : Array Value) (i : Nat) (__s : Option Bool × Unit) : Sem (ForInStep (Option Bool × Unit)) := do
  let a ← part elem xs (i * n)
  let b ← part elem ys (i * n)
  let c ← Op.equalIn d elem a b
  if (!c) = true then pure (ForInStep.done (some false, ())) else pure (ForInStep.yield (none, ()))
theorem eqD_ok : ∀ (d j : Nat) {t : TypeId} {x y : SV} {e : BE}, eqD P d t x y = some e → (Op.equalIn (d + j) t (x.den ρ φ) (y.den ρ φ)).run P w = .ok (e.den ρ) w
  | 0, j, t, x, y, e, h => by cases h
  | d + 1, j, t, x, y, e, h => by
    rw [show d + 1 + j = d + j + 1 by omega]
    simp only [eqD] at h
    split at h
    · rename_i a b hu
      cases h
      rw [mkEqb_den]; exact eq_bool hu w
    · rename_i k a l b hu
      split at h
      · rename_i hk
        subst hk
        cases h
        rw [mkCmp_den]; exact eq_int hu w
      · cases h
    · rename_i fs xs ys hu
      split at h
      · cases h
      · rename_i hs
        have hs' : P.stoodInHeld t = false := by simpa using hs
        have hfor : (forIn fs (none, ()) (eqBody (d + j) (SV.denL ρ φ xs).toArray (SV.denL ρ φ ys).toArray)).run P w = .ok (if e.den ρ then (none, ()) else (some false, ())) w := by
          rw [← Array.forIn_toList]
          refine forIn_andO _ h fun f hf b hb => ?_
          unfold eqF at hb
          split at hb
          · cases hb
          · rename_i hn
            obtain ⟨p, q, h1, h2, h3⟩ := eqP_some hb
            have ih := eqD_ok d j h3
            unfold eqBody
            rw [if_pos hn]
            simp only [Sem.run_bind, partS_run h1, partS_run h2, Result.andThen_ok, ih]
            cases b.den ρ <;> simp
        simp only [SV.den]
        rw [Op.equalIn]
        simp only [Sem.run_bind, run_underlying hu, Result.andThen_ok, program, Sem.run, hs', Bool.false_eq_true, if_false]
        change ((forIn fs (none, ()) (eqBody (d + j) (SV.denL ρ φ xs).toArray (SV.denL ρ φ ys).toArray)).run P w).andThen _ = _
        rw [hfor]
        cases e.den ρ <;> simp
    · rename_i n elem xs ys hu
      cases hsz : sizeS P elem with
      | none => simp [hsz] at h
      | some sz =>
        simp only [hsz] at h
        have hfor : (forIn (List.range' 0 n 1) (none, ()) (eqArr (d + j) elem sz (SV.denL ρ φ xs).toArray (SV.denL ρ φ ys).toArray)).run P w = .ok (if e.den ρ then (none, ()) else (some false, ())) w := by
          refine forIn_andO _ h fun i hi b hb => ?_
          obtain ⟨p, q, h1, h2, h3⟩ := eqP_some hb
          have ih := eqD_ok d j h3
          unfold eqArr
          simp only [Sem.run_bind, partS_run h1, partS_run h2, Result.andThen_ok, ih]
          cases b.den ρ <;> simp
        simp only [SV.den]
        rw [Op.equalIn]
        simp only [Sem.run_bind, run_underlying hu, Result.andThen_ok, sizeS_run hsz, Std.Legacy.Range.forIn_eq_forIn_range', Std.Legacy.Range.size, Nat.sub_zero, Nat.add_sub_cancel, Nat.div_one]
        change ((forIn (List.range' 0 n 1) (none, ()) (eqArr (d + j) elem sz (SV.denL ρ φ xs).toArray (SV.denL ρ φ ys).toArray)).run P w).andThen _ = _
        rw [hfor]
        cases e.den ρ <;> simp
    · cases h
theorem eqN_ok {op : BinOp} {x y : Operand} {as bs : List SV} {t : TypeId} {v : SV} {st' : Store} {r wl : List Loc} (h : eqN P op t as bs st = .ok v st' r wl) (w : World) :
    st' = st ∧ (do eqGuard op t x y ((SV.agg as).den ρ φ) ((SV.agg bs).den ρ φ); binOp op t ((SV.agg as).den ρ φ) ((SV.agg bs).den ρ φ) : Sem Value).run P w = .ok (v.den ρ φ) w := by
  unfold eqN at h
  split at h
  · cases h
  · rename_i h4
    cases he : eqD P 9 t (.agg as) (.agg bs) with
    | none => simp only [he] at h; cases h
    | some e =>
      simp only [he] at h
      have hq : (Op.equal t ((SV.agg as).den ρ φ) ((SV.agg bs).den ρ φ)).run P w = .ok (e.den ρ) w := eqD_ok 9 9991 he
      have hg : (eqGuard op t x y ((SV.agg as).den ρ φ) ((SV.agg bs).den ρ φ)).run P w = .ok () w := by
        simp only [SV.den]
        unfold eqGuard
        cases op <;> simp [program, Sem.run, h4]
      cases hs : eqlS op e with
      | none => simp only [hs] at h; cases h
      | some u =>
        simp only [hs] at h
        obtain ⟨rfl, rfl, _, _⟩ := M.pure_ok h
        refine ⟨rfl, ?_⟩
        simp only [SV.den] at hq hg
        rcases eqlS_ok hs with ⟨rfl, rfl⟩ | ⟨rfl, rfl⟩
        · simp only [SV.den, Sem.run_bind, hg, Result.andThen_ok, binOp, hq, Sem.run_pure]
        · simp only [SV.den, Sem.run_bind, hg, Result.andThen_ok, binOp, hq, Sem.run_pure, mkNot_den]
/-! strings -/
def toB (n : Int) : UInt8 := UInt8.ofNat n.toNat
theorem bytesI_eq (l : List Int) : bytesI l = ByteArray.mk (l.map toB).toArray := rfl
theorem strB_den {x : SV} {l : List IE} (h : strB x = some l) : x.den ρ φ = .string (bytesI (l.map (IE.den ρ))) := by
  unfold strB at h
  split at h
  · cases h; rfl
  · rename_i s
    cases h
    simp only [SV.den, bytesI, List.map_map]
    congr 1
    obtain ⟨d⟩ := s
    congr 1
    apply Array.ext'
    have : (fun n : Int => UInt8.ofNat n.toNat) ∘ (IE.den ρ ∘ fun b : UInt8 => IE.lit (b.toNat : Int)) = id := by
      funext b
      show UInt8.ofNat ((b.toNat : Int).toNat) = b
      rw [Int.toNat_natCast]
      simp
    simp [this]
  · cases h
theorem bytesFit_ok {X : Ctx} (hX : Knows ρ X) {l : List IE} (h : bytesFit X l = true) : ∀ e ∈ l, 0 ≤ e.den ρ ∧ e.den ρ ≤ 255 := by
  intro e he
  have := fits_ok hX (List.all_eq_true.1 h e he)
  have h1 : IntKind.u8.min = 0 := by decide
  have h2 : IntKind.u8.max = 255 := by decide
  omega
theorem toB_inj {a b : Int} (ha : 0 ≤ a ∧ a ≤ 255) (hb : 0 ≤ b ∧ b ≤ 255) : (toB a = toB b) ↔ a = b := by
  constructor
  · intro h
    have := congrArg UInt8.toNat h
    simp [toB] at this
    omega
  · rintro rfl; rfl
theorem toB_toNat {a : Int} (ha : 0 ≤ a ∧ a ≤ 255) : ((toB a).toNat : Int) = a := by simp [toB]; omega
theorem eqBs_den : ∀ {l m : List IE}, l.length = m.length → (∀ e ∈ l, 0 ≤ e.den ρ ∧ e.den ρ ≤ 255) → (∀ e ∈ m, 0 ≤ e.den ρ ∧ e.den ρ ≤ 255) → (eqBs l m).den ρ = decide (l.map (fun e => toB (e.den ρ)) = m.map (fun e => toB (e.den ρ)))
  | [], [], _, _, _ => by simp [eqBs, BE.den]
  | [], _ :: _, h, _, _ => by simp at h
  | _ :: _, [], h, _, _ => by simp at h
  | a :: l, b :: m, h, h1, h2 => by
    have ih := eqBs_den (l := l) (m := m) (by simpa using h) (fun e he => h1 e (by simp [he])) (fun e he => h2 e (by simp [he]))
    simp only [eqBs, mkAnd_den, mkCmp_den, ih, cmpI, List.map_cons, List.cons.injEq]
    have := toB_inj (h1 a (by simp)) (h2 b (by simp))
    by_cases hab : a.den ρ = b.den ρ
    · simp [hab]
    · have : toB (a.den ρ) ≠ toB (b.den ρ) := fun e => hab (this.1 e)
      simp [hab, this]
theorem map_toB (l : List IE) : (l.map (IE.den ρ)).map toB = l.map (fun e => toB (e.den ρ)) := by simp
theorem str_eq {l m : List IE} {X : Ctx} (hX : Knows ρ X) (hl : bytesFit X l = true) (hm : bytesFit X m = true) (hlen : l.length = m.length) :
    ((bytesI (l.map (IE.den ρ))).toList == (bytesI (m.map (IE.den ρ))).toList) = (eqBs l m).den ρ := by
  rw [eqBs_den hlen (bytesFit_ok hX hl) (bytesFit_ok hX hm), bytesI_eq, bytesI_eq, ByteArray.toList_mk, ByteArray.toList_mk, map_toB, map_toB]
  rw [Bool.eq_iff_iff]; simp
theorem str_ne {l m : List IE} (hlen : l.length ≠ m.length) : ((bytesI (l.map (IE.den ρ))).toList == (bytesI (m.map (IE.den ρ))).toList) = false := by
  rw [bytesI_eq, bytesI_eq, ByteArray.toList_mk, ByteArray.toList_mk]
  rw [beq_eq_false_iff_ne]
  intro h
  have := congrArg List.length h
  simp at this
  exact hlen this
theorem eqGuard_str {op : BinOp} {t : TypeId} {x y : Operand} {a b : ByteArray} (w : World) : (eqGuard op t x y (.string a) (.string b)).run P w = .ok () w := by
  unfold eqGuard
  cases op <;> simp
theorem strS_ok {X : Ctx} (hX : Knows ρ X) {op : BinOp} {l m : List IE} {v : SV} {t : TypeId} (h : strS X op l m = some v) (w : World) :
    (binOp op t (.string (bytesI (l.map (IE.den ρ)))) (.string (bytesI (m.map (IE.den ρ))))).run P w = .ok (v.den ρ φ) w := by
  unfold strS at h
  split at h
  · split at h
    · rename_i hle
      cases h
      have hle := Nat.le_of_ble_eq_true hle
      rw [binOp_string_add, run_string_add_sum]
      · simp only [SV.den, bytesI_eq, ByteArray.mk_append_mk, List.map_append]
      · simp only [bytesI_eq, ByteArray.size_mk', List.size_toArray, List.length_map]; omega
    · cases h
  · split at h
    · rename_i hlen
      have hlen : l.length = m.length := by simpa using hlen
      split at h
      · rename_i hf
        simp only [Bool.and_eq_true] at hf
        have e := (str_eq hX hf.1 hf.2 hlen).trans (nameB_den hX.nb _).symm
        rcases eqlS_ok h with ⟨rfl, rfl⟩ | ⟨rfl, rfl⟩
        · rw [binOp_string_eql, e]; rfl
        · rw [binOp_string_neq, e]; simp only [SV.den, mkNot_den]; rfl
      · cases h
    · rename_i hlen
      have hlen : l.length ≠ m.length := by simpa using hlen
      have e := str_ne (ρ := ρ) hlen
      rcases eqlS_ok h with ⟨rfl, rfl⟩ | ⟨rfl, rfl⟩
      · rw [binOp_string_eql, e]; rfl
      · rw [binOp_string_neq, e]; rfl
theorem nilEq_ok {d : TypeDesc} {x y : SV} {b : Bool} {t : TypeId} (hu : P.underlying t = some d) (h : nilEq d x y = some b) (w : World) :
    (Op.equal t (x.den ρ φ) (y.den ρ φ)).run P w = .ok b w ∧ ∀ (op : BinOp) (p q : Operand), (eqGuard op t p q (x.den ρ φ) (y.den ρ φ)).run P w = .ok () w := by
  unfold nilEq at h
  split at h <;> cases h
  all_goals
    refine ⟨?_, fun op p q => ?_⟩
    · have key : ∀ {x y : Value} {b : Bool}, (∀ n, (Op.equalIn (n + 1) t x y).run P w = .ok b w) → (Op.equal t x y).run P w = .ok b w := fun h => h 9999
      refine key fun n => ?_
      simp [Op.equalIn, run_underlying hu, SV.den]
    · first
      | (unfold eqGuard
         cases op <;> simp [SV.den]
         done)
      | (have hg : (Op.eqGuardIn Op.maxDepth t .nilIface .nilIface).run P w = .ok false w := by
           have key : ∀ n, (Op.eqGuardIn (n + 1) t .nilIface .nilIface).run P w = .ok false w := fun n => by
             simp [Op.eqGuardIn, run_underlying hu]
           exact key _
         unfold eqGuard
         cases op <;> simp [SV.den, hg])
theorem binOp_eql {t : TypeId} {x y : Value} (hx : ∀ k n, x ≠ .int k n) (hf : ∀ k n, x ≠ .float k n) (hc : ∀ k n m, x ≠ .complex k n m) (hs : ∀ s, x ≠ .string s) : binOp .eql t x y = (do pure (.bool (← Op.equal t x y))) ∧ binOp .neq t x y = (do pure (.bool (!(← Op.equal t x y)))) := by
  constructor <;> cases x <;> simp_all [binOp]
theorem elseS_ok {X : Ctx} (hX : Knows ρ X) {op : BinOp} {t : TypeId} {x y : Operand} {xv yv v : SV} (h : elseS P X op t xv yv = some v) (w : World) :
    (do eqGuard op t x y (xv.den ρ φ) (yv.den ρ φ); binOp op t (xv.den ρ φ) (yv.den ρ φ) : Sem Value).run P w = .ok (v.den ρ φ) w := by
  unfold elseS at h
  split at h
  · rename_i hu
    split at h
    · rename_i l m h1 h2
      rw [strB_den h1, strB_den h2, Sem.run_bind, eqGuard_str, Result.andThen_ok]
      exact strS_ok hX h w
    · cases h
  · rename_i d _ hu
    split at h
    · rename_i b hb
      obtain ⟨h1, h2⟩ := nilEq_ok (ρ := ρ) (φ := φ) hu hb w
      rw [Sem.run_bind, h2, Result.andThen_ok]
      have hn : binOp .eql t (xv.den ρ φ) (yv.den ρ φ) = (do pure (.bool (← Op.equal t (xv.den ρ φ) (yv.den ρ φ)))) ∧ binOp .neq t (xv.den ρ φ) (yv.den ρ φ) = (do pure (.bool (!(← Op.equal t (xv.den ρ φ) (yv.den ρ φ))))) := by
        apply binOp_eql <;> (unfold nilEq at hb; split at hb <;> simp_all [SV.den])
      rcases eqlS_ok h with ⟨rfl, rfl⟩ | ⟨rfl, rfl⟩
      · rw [hn.1, Sem.run_bind, h1]; rfl
      · rw [hn.2, Sem.run_bind, h1]; rfl
    · cases h
  · cases h
theorem binS_ok {op : BinOp} {x y : Operand} {xv yv : SV} {t : TypeId} {v : SV} {X : Ctx} (hX : Knows ρ X) {st' : Store} {r wl : List Loc} (h : binS P X op t xv yv st = .ok v st' r wl) (w : World) :
    st' = st ∧ (do eqGuard op t x y (xv.den ρ φ) (yv.den ρ φ); binOp op t (xv.den ρ φ) (yv.den ρ φ) : Sem Value).run P w = .ok (v.den ρ φ) w := by
  unfold binS at h
  split at h
  · rename_i k a l b
    obtain ⟨h1, h2⟩ := binOp_int (φ := φ) (t := t) hX h w
    refine ⟨h1, ?_⟩
    have hg : (eqGuard op t x y (.int k (a.den ρ)) (.int l (b.den ρ))).run P w = .ok () w := by
      unfold eqGuard
      cases op <;> simp
    simp only [SV.den, Sem.run_bind, hg, Result.andThen_ok]
    exact h2
  · rename_i a b
    have hg : (eqGuard op t x y (.bool (a.den ρ)) (.bool (b.den ρ))).run P w = .ok () w := by
      unfold eqGuard
      cases op <;> simp
    cases hb : boolS op (P.underlying t) a b with
    | none => simp only [hb] at h; cases h
    | some u =>
      simp only [hb] at h
      obtain ⟨rfl, rfl, _, _⟩ := M.pure_ok h
      refine ⟨rfl, ?_⟩
      unfold boolS at hb
      split at hb
      · rename_i hu
        have : (Op.equal t (.bool (a.den ρ)) (.bool (b.den ρ))).run P w = .ok (a.den ρ == b.den ρ) w := eq_bool (d := 9999) hu w
        rcases eqlS_ok hb with ⟨rfl, rfl⟩ | ⟨rfl, rfl⟩
        · simp only [SV.den, Sem.run_bind, hg, Result.andThen_ok, binOp, this, Sem.run_pure, mkEqb_den]
        · simp only [SV.den, Sem.run_bind, hg, Result.andThen_ok, binOp, this, Sem.run_pure, mkEqb_den, mkNot_den]
      · cases hb
  · rename_i as bs
    cases hf : fieldsS P t with
    | none => simp only [hf] at h; exact eqN_ok h w
    | some fs =>
      cases he : eqCells as bs with
      | none => simp only [hf, he] at h; exact eqN_ok h w
      | some e =>
        simp only [hf, he] at h
        split at h
        · rename_i hc
          simp only [Bool.and_eq_true, Bool.not_eq_true'] at hc
          obtain ⟨⟨⟨h1, h2⟩, h3⟩, h4⟩ := hc
          have hu : P.underlying t = some (.struct fs) := by
            unfold fieldsS at hf
            split at hf
            · rename_i hq; cases hf; exact hq
            · cases hf
          have hq := eq_struct (ρ := ρ) (φ := φ) hu h1 h2 he h3 w
          have hg : (eqGuard op t x y (.agg (SV.denL ρ φ as).toArray) (.agg (SV.denL ρ φ bs).toArray)).run P w = .ok () w := by
            unfold eqGuard
            cases op <;> simp [program, Sem.run, h4]
          cases hs : eqlS op e with
          | none => simp only [hs] at h; cases h
          | some u =>
            simp only [hs] at h
            obtain ⟨rfl, rfl, _, _⟩ := M.pure_ok h
            refine ⟨rfl, ?_⟩
            rcases eqlS_ok hs with ⟨rfl, rfl⟩ | ⟨rfl, rfl⟩
            · simp only [SV.den, Sem.run_bind, hg, Result.andThen_ok, binOp, hq, Sem.run_pure]
            · simp only [SV.den, Sem.run_bind, hg, Result.andThen_ok, binOp, hq, Sem.run_pure, mkNot_den]
        · exact eqN_ok h w
  · cases hs : elseS P X op t xv yv with
    | none => simp only [hs] at h; cases h
    | some u =>
      simp only [hs] at h
      obtain ⟨rfl, rfl, _, _⟩ := M.pure_ok h
      exact ⟨rfl, elseS_ok hX hs w⟩
end Ev
end Go.Proofs.Ytmgfnejiienghaa
