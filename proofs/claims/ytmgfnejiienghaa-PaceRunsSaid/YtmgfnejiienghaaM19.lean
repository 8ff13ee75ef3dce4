/- Several texts in one. -/
import Derived.Test.YtmgfnejiienghaaM18
import Derived.TacticsIn
/- A checked evaluator: what it says of an operation is what the model does. -/
namespace Go.Proofs.Ytmgfnejiienghaa
open Go Go.RowKit
set_option linter.unusedVariables false
namespace Ev
variable {S : Type} {P : Program} {ρ : Env} {E : List (Nat × Nat)} {w0 : World} {φ : Nat → Nat} {st : Store} {w : World}

/-- the fence that lets everything in, in a round or in none -/
def FW (r : Option Nat) : Fence := { Fence.wide with round := r }
theorem FW_room (r : Option Nat) (n : Nat) : (FW r).room n := fun d hd => by cases hd
theorem callsIn_FW {r : Option Nat} {n : Nat} {f : FuncId} {args : Array Value} {R : Ending → World → Prop} (h : Calls P f args w R) : CallsIn (FW r) n P f args w R :=
  callsIn_wide.2 h
theorem calls_FW {r : Option Nat} {n : Nat} {f : FuncId} {args : Array Value} {R : Ending → World → Prop} (h : CallsIn (FW r) n P f args w R) : Calls P f args w R :=
  callsIn_wide.1 h
/-- how a call ends -/
def endOf (ρ : Env) (φ : Nat → Nat) : SV → Ending
  | .panv u => .panicked [{ v := u.den ρ φ, recovered := false }]
  | v => .returned (v.den ρ φ)
theorem endOf_ret {v : SV} (h : notPan v = true) : endOf ρ φ v = .returned (v.den ρ φ) := by
  cases v <;> first | rfl | (simp [notPan] at h)
/-- a call that is worked out: what it says is what the callee does -/
def CallOk (P : Program) (ρ : Env) (E : List (Nat × Nat)) (call : FuncId → List SV → Nat → M Store SV) : Prop :=
  ∀ f vs id st v st' r wl, call f vs id st = .ok v st' r wl → ∀ w0 φ w, RelS P ρ E w0 φ st w →
    (∀ args w', (callFunc f args).run P w' = .ok (.enter f args) w') ∧
    Calls P f (SV.denL ρ φ vs).toArray w fun e w' => ∃ φ', Step P ρ E w0 φ st φ' st' w' ∧ e = endOf ρ φ' v
/-- a round of a range over a function -/
def RoundOk (P : Program) (ρ : Env) (E : List (Nat × Nat)) (rnd : Nat → List SV → Nat → M Store SV) : Prop :=
  ∀ b vs id st v st' r wl, rnd b vs id st = .ok v st' r wl → ∀ w0 φ w, RelS P ρ E w0 φ st w →
    ∃ f tmps as body, (Instr.yield (φ b) (SV.denL ρ φ vs).toArray).run P w = .ok (.round (φ b) f tmps as body) w ∧ notPan v = true ∧
    ∀ r, RoundIn (FW r) 0 P (φ b) f tmps as body w fun e w' => ∃ φ', Step P ρ E w0 φ st φ' st' w' ∧ e = .returned (v.den ρ φ')
/-- what an operation leads to -/
def outc (ρ : Env) (φ : Nat → Nat) (v : SV) (dst : Option Tmp) (next : Act → World → Prop) (Q : Exit → Act → World → Prop) (a : Act) (w : World) : Prop :=
  match v with
  | .panv u => Q (.panic [{ v := u.den ρ φ, recovered := false }]) a w
  | v => next (a.put dst (v.den ρ φ)) w
theorem outc_put {v : SV} {dst : Option Tmp} {next : Act → World → Prop} {Q : Exit → Act → World → Prop} {a : Act} (h : notPan v = true) : outc ρ φ v dst next Q a w ↔ next (a.put dst (v.den ρ φ)) w := by
  cases v <;> first | exact Iff.rfl | (simp [notPan] at h)
section
variable {r : Option Nat} {o : Oper} {a : Act} {next : Act → World → Prop} {Q : Exit → Act → World → Prop}
theorem wpI_of (hd : ∀ c, o.op ≠ .defer c) (h : o.uponIn (FW r) 0 P a next Q ((execOp a.eval o).run P w)) : o.wpIn (FW r) 0 P a w next Q :=
  ⟨fun _ _ => trivial, by rw [Oper.semAt_eq _ _ _ hd]; exact h⟩
theorem wp_value {x : Value} {w' : World} (hd : ∀ c, o.op ≠ .defer c) (h : (execOp a.eval o).run P w = .ok (.value x) w') (hn : next (a.put o.dst x) w') : o.wpIn (FW r) 0 P a w next Q :=
  wpI_of hd (by rw [h]; exact hn)
theorem wp_skip' {w' : World} (hd : ∀ c, o.op ≠ .defer c) (h : (execOp a.eval o).run P w = .ok .skip w') (hn : next (a.put o.dst undef) w') : o.wpIn (FW r) 0 P a w next Q :=
  wpI_of hd (by rw [h]; exact hn)
theorem wp_panic' {x : Value} {w' : World} (hd : ∀ c, o.op ≠ .defer c) (h : (execOp a.eval o).run P w = .halt (.panic x) w') (hn : Q (.panic [{ v := x, recovered := false }]) a w') : o.wpIn (FW r) 0 P a w next Q :=
  wpI_of hd (by rw [h]; exact hn)
theorem wp_enter' {f : FuncId} {args : Array Value} (hd : ∀ c, o.op ≠ .defer c) (h : (execOp a.eval o).run P w = .ok (.enter f args) w)
    (hc : Calls P f args w fun e w' => (∃ v, e = .returned v ∧ next (a.put o.dst v) w') ∨ (∃ ch, e = .panicked ch ∧ Q (.panic ch) a w')) : o.wpIn (FW r) 0 P a w next Q := by
  refine wpI_of hd ?_
  rw [h]
  refine ⟨fun hh => (by cases hh), callsIn_FW (hc.mono fun e w' he => ?_)⟩
  rcases he with ⟨v, rfl, hn⟩ | ⟨ch, rfl, hn⟩
  · exact hn
  · exact hn
theorem wp_round' {l : Nat} {f : FuncId} {tmps : Array Value} {as body : Code} (hd : ∀ c, o.op ≠ .defer c) (h : (execOp a.eval o).run P w = .ok (.round l f tmps as body) w)
    (hc : RoundIn (FW r) 0 P l f tmps as body w fun e w' => ∃ v, e = .returned v ∧ next (a.put o.dst v) w') : o.wpIn (FW r) 0 P a w next Q := by
  refine wpI_of hd ?_
  rw [h]
  exact ⟨fun hh => (by cases hh), hc.mono fun e w' ⟨v, he, hn⟩ => by subst he; exact hn⟩
end

/-- cells are stored in a row of which nothing is shared with strings -/
theorem run_storeCells_clear (P : Program) (g o : Nat) (t : TypeId) (fr : Nat × Nat) : ∀ (vs : List Value) (i : Nat) (cur : Array Value) (w : World), w.heap[g]? = some (.cells cur t fr) → clearOf fr cur.size → o + i + vs.length ≤ cur.size → (∀ v ∈ vs, v.oneCell' = true) →
    (storeCells ⟨g, o, none⟩ vs i).run P w = .ok () (w.setRow g (cur.toList.take (o + i) ++ vs ++ cur.toList.drop (o + i + vs.length)).toArray)
  | [], i, cur, w, hg, _, _, _ => by
    simp only [storeCells, List.append_nil, List.length_nil, Nat.add_zero, List.take_append_drop, Array.toArray_toList]
    rw [setRow_self w g cur t fr hg]
    rfl
  | v :: rest, i, cur, w, hg, hc, hl, h1 => by
    have hi : o + i < cur.size := by simp at hl; omega
    have hadd : (⟨g, o, none⟩ : Addr).add i = ⟨g, o + i, none⟩ := by unfold Addr.add; split <;> simp_all
    have hcell : w.cell? ⟨g, o + i, none⟩ = some cur[o + i] := by simp [World.cell?, hg, hi]
    have hfro : w.frozen? ⟨g, o + i, none⟩ = false := by
      obtain ⟨lo, hh⟩ := fr
      simp only [World.frozen?, hg]
      rcases hc with h | h
      · cases h; simp
      · simp only at h ⊢
        have : ¬ lo ≤ o + i := by omega
        simp [this]
    have hst : (store ((⟨g, o, none⟩ : Addr).add i) v).run P w = .ok () (w.setRow g (cur.setIfInBounds (o + i) v)) := by
      rw [hadd, run_store P w _ v _ (h1 v (by simp)), hcell]
      simp [hfro, setCell_eq_setRow w g (o + i) cur t fr v hg]
    have ih := run_storeCells_clear P g o t fr rest (i + 1) (cur.setIfInBounds (o + i) v) (w.setRow g (cur.setIfInBounds (o + i) v)) (setRow_heap w g cur _ t _ hg) (by simpa using hc) (by simp at hl ⊢; omega) (fun x hx => h1 x (by simp [hx]))
    simp only [storeCells, Sem.run_bind, hst, Result.andThen_ok, ih, setRow_setRow]
    congr 3
    have e := list_seg_step cur.toList (o + i) v rest (by simp at hl ⊢; omega)
    simpa [Array.toList_setIfInBounds, Nat.add_assoc] using e

theorem sizeS_run {t : TypeId} {n : Nat} (h : sizeS P t = some n) (w : World) : (sizeOf t).run P w = .ok n w := by
  unfold sizeS at h
  cases hq : P.info? t with
  | none => simp [hq] at h
  | some i =>
    simp only [hq, Option.map_some, Option.some.injEq] at h
    subst h
    simp [sizeOf, typeInfo, hq]
theorem isAgg_run {t : TypeId} {b : Bool} (h : aggS P t = some b) (w : World) : (isAgg t).run P w = .ok b w := by
  unfold aggS at h
  cases hq : P.underlying t with
  | none => simp [hq] at h
  | some d =>
    simp only [hq, Option.map_some, Option.some.injEq] at h
    unfold isAgg
    rw [Sem.run_bind, run_underlying hq w]
    subst h
    cases d <;> simp [aggD]
theorem addr_add (g o n : Nat) : (⟨g, o, none⟩ : Addr).add n = ⟨g, o + n, none⟩ := by unfold Addr.add; split <;> simp_all
theorem run_load_agg {ty t : TypeId} {g off n : Nat} {fr : Nat × Nat} {l : List Value} (hg : w.heap[g]? = some (.cells l.toArray t fr)) (ha : aggS P ty = some true) (hs : sizeS P ty = some n) (hl : off + n ≤ l.length) :
    (loadVar ty ⟨g, off, none⟩).run P w = .ok (.agg ((l.drop off).take n).toArray) w := by
  have hlen : ((l.drop off).take n).length = n := by simp; omega
  have := run_loadCells_list (P := P) w ⟨g, off, none⟩ ((l.drop off).take n) (fun j v hv => by
    rw [addr_add, cell_of_row w g (off + j) l.toArray t fr hg]
    rw [List.getElem?_take] at hv
    split at hv
    · rw [List.getElem?_drop] at hv; simpa using hv
    · cases hv)
  rw [hlen] at this
  simp [loadVar, isAgg_run ha, sizeS_run hs, this]
theorem run_load_one {ty t : TypeId} {g off : Nat} {fr : Nat × Nat} {l : List Value} {v : Value} (hg : w.heap[g]? = some (.cells l.toArray t fr)) (ha : aggS P ty = some false) (hv : l[off]? = some v) :
    (loadVar ty ⟨g, off, none⟩).run P w = .ok v w := by
  have hc : w.cell? ⟨g, off, none⟩ = some v := by rw [cell_of_row w g off l.toArray t fr hg]; simpa using hv
  simp [loadVar, isAgg_run ha, load, Sem.run, hc]
theorem rdB_ok {b : Nat} {B : Blk} {st' : Store} {r wl : List Loc} (h : rdB b st = .ok B st' r wl) : st.get b = some B ∧ st' = st := by
  unfold rdB at h
  cases hB : st.get b with
  | none => simp only [hB] at h; cases h
  | some C => simp only [hB] at h; cases h; exact ⟨rfl, rfl⟩
theorem wrB_ok {b : Nat} {B : Blk} {st' : Store} {r wl : List Loc} {u : Unit} (h : wrB b B st = .ok u st' r wl) : st' = st.set b B := by
  unfold wrB at h
  cases hB : st.get b with
  | none => simp only [hB] at h; cases h
  | some C => simp only [hB] at h; cases h; rfl
theorem loadS_same {t : TypeId} {b off : Nat} {v : SV} {st' : Store} {r wl : List Loc} (h : loadS P t b off st = .ok v st' r wl) : st' = st := by
  unfold loadS at h
  obtain ⟨B, s1, _, _, _, _, h1, h2, _, _⟩ := M.bind_ok h
  obtain ⟨_, rfl⟩ := rdB_ok h1
  by_cases hh : headIs B.cells = true
  · rw [if_pos hh] at h2; cases h2
  rw [if_neg hh] at h2
  cases ha : aggS P t with
  | none => simp only [ha] at h2; cases h2
  | some x =>
    cases x with
    | true =>
      simp only [ha] at h2
      cases hs : sizeS P t with
      | none => simp only [hs] at h2; cases h2
      | some n =>
        simp only [hs] at h2
        split at h2
        · obtain ⟨_, rfl, _, _⟩ := M.pure_ok h2; rfl
        · cases h2
    | false =>
      simp only [ha] at h2
      cases hc : B.cells[off]? with
      | none => simp only [hc] at h2; cases h2
      | some u =>
        simp only [hc] at h2
        obtain ⟨_, rfl, _, _⟩ := M.pure_ok h2; rfl
theorem loadS_ok {t : TypeId} {b off : Nat} {v : SV} {st' : Store} {r wl : List Loc} (h : loadS P t b off st = .ok v st' r wl) (hr : RelS P ρ E w0 φ st w) :
    st' = st ∧ (loadVar t ⟨φ b, off, none⟩).run P w = .ok (v.den ρ φ) w := by
  unfold loadS at h
  obtain ⟨B, s1, _, _, _, _, h1, h2, _, _⟩ := M.bind_ok h
  obtain ⟨hB, rfl⟩ := rdB_ok h1
  by_cases hh : headIs B.cells = true
  · rw [if_pos hh] at h2; cases h2
  rw [if_neg hh] at h2
  have hrow : headIs B.cells = false := by simpa using hh
  obtain ⟨rest, fr, hg, hlen, _⟩ := hr.row hB hrow
  have hlB : (SV.denL ρ φ B.cells).length = B.cells.length := by rw [denL_map]; simp
  cases ha : aggS P t with
  | none => simp only [ha] at h2; cases h2
  | some x =>
    cases x with
    | true =>
      simp only [ha] at h2
      cases hs : sizeS P t with
      | none => simp only [hs] at h2; cases h2
      | some n =>
        simp only [hs] at h2
        split at h2
        · rename_i hle
          obtain ⟨rfl, rfl, _, _⟩ := M.pure_ok h2
          refine ⟨rfl, ?_⟩
          have hle := Nat.le_of_ble_eq_true hle
          rw [run_load_agg hg ha hs (by simp; omega)]
          have e : ((SV.denL ρ φ B.cells ++ rest).drop off).take n = ((SV.denL ρ φ B.cells).drop off).take n := by
            rw [List.drop_append_of_le_length (by omega), List.take_append_of_le_length (by simp; omega)]
          rw [e]
          simp [SV.den, denL_map, List.map_take, List.map_drop]
        · cases h2
    | false =>
      simp only [ha] at h2
      cases hc : B.cells[off]? with
      | none => simp only [hc] at h2; cases h2
      | some u =>
        simp only [hc] at h2
        obtain ⟨rfl, rfl, _, _⟩ := M.pure_ok h2
        have hlt := (List.getElem?_eq_some_iff.1 hc).1
        exact ⟨rfl, run_load_one hg ha (by rw [List.getElem?_append_left (by omega), denL_map]; simp [hc])⟩
theorem cellsX_den (f : Nat) (e : IE) : ∀ (ks : List EK) (c : Nat), (∀ j k, ks[j]? = some k → (SV.denL ρ φ (cellsX (f + c) e ks))[j]? = some ((cellX (f + (c + j)) e k).den ρ id)) ∧ (SV.denL ρ φ (cellsX (f + c) e ks)).length = ks.length
  | [], c => ⟨fun j k h => by simp at h, rfl⟩
  | k :: ks, c => by
    obtain ⟨h1, h2⟩ := cellsX_den f e ks (c + 1)
    refine ⟨fun j k' h => ?_, by simp only [cellsX, SV.denL, List.length_cons]; rw [show f + c + 1 = f + (c + 1) by omega, h2]⟩
    cases j with
    | zero =>
      simp only [List.getElem?_cons_zero, Option.some.injEq] at h
      subst h
      simp only [cellsX, SV.denL, List.getElem?_cons_zero]
      cases k <;> simp only [cellX, SV.den, Nat.add_zero]
    | succ j =>
      simp only [cellsX, SV.denL, List.getElem?_cons_succ]
      rw [show f + c + 1 = f + (c + 1) by omega, show c + (j + 1) = c + 1 + j by omega]
      exact h1 j k' (by simpa using h)
theorem xcell {B : Ext} {w : World} (hg : w.heap[B.blk]? = some (.cells B.c B.ty B.fr)) (o : Nat) : w.cell? ⟨B.blk, o, none⟩ = B.c[o]? := by
  simp [World.cell?, hg]
theorem loadX_ok {X : Ctx} (hX : Knows ρ X) {t : TypeId} {j c : Nat} {e : IE} {v : SV} {st' : Store} {r wl : List Loc} (h : loadX P X t j e c st = .ok v st' r wl) (hr : RelS P ρ E w0 φ st w) :
    st' = st ∧ ∃ a, (SV.xp j e c).den ρ φ = .pointer (some a) ∧ (loadVar t a).run P w = .ok (v.den ρ φ) w := by
  unfold loadX at h
  cases hd : X.xs[j]? with
  | none => simp only [hd] at h; cases h
  | some d =>
    simp only [hd] at h
    obtain ⟨_, s1, _, _, _, _, h1, h2, _, _⟩ := M.bind_ok h
    obtain ⟨rfl, B, hB, x1, x2, x3, x4, x5, x6⟩ := inX_ok hX hd h1
    have hg := hr.xt j B (Env.y_of hB x6)
    have hden : (SV.xp j e c).den ρ φ = .pointer (some ⟨B.blk, B.off + ((e.den ρ).toNat * B.sz + c), none⟩) := by simp only [SV.den, hB, xpV]
    cases ha : aggS P t with
    | none => simp only [ha] at h2; cases h2
    | some x =>
      cases x with
      | true =>
        simp only [ha] at h2
        cases hs : sizeS P t with
        | none => simp only [hs] at h2; cases h2
        | some n =>
          simp only [hs] at h2
          split at h2
          · rename_i hle
            obtain ⟨rfl, rfl, _, _⟩ := M.pure_ok h2
            refine ⟨rfl, _, hden, ?_⟩
            have hle := Nat.le_of_ble_eq_true hle
            obtain ⟨k1, k2⟩ := cellsX_den (ρ := ρ) (φ := φ) d.f e ((d.ks.drop c).take n) c
            have hlen : (SV.denL ρ φ (cellsX (d.f + c) e ((d.ks.drop c).take n))).length = n := by rw [k2]; simp; omega
            have := run_loadCells_list (P := P) w ⟨B.blk, B.off + ((e.den ρ).toNat * B.sz + c), none⟩ (SV.denL ρ φ (cellsX (d.f + c) e ((d.ks.drop c).take n))) (fun i v hv => by
              have hi : i < n := by
                have := (List.getElem?_eq_some_iff.1 hv).1
                omega
              have hks : ((d.ks.drop c).take n)[i]? = d.ks[c + i]? := by
                rw [List.getElem?_take, if_pos hi, List.getElem?_drop]
              cases hk : d.ks[c + i]? with
              | none => exact absurd (List.getElem?_eq_none_iff.1 hk) (by omega)
              | some k =>
                rw [k1 i k (by rw [hks]; exact hk)] at hv
                rw [addr_add, xcell hg, ← hv, show B.off + ((e.den ρ).toNat * B.sz + c) + i = B.off + ((e.den ρ).toNat * B.sz + (c + i)) by omega]
                exact x5 (c + i) k hk)
            rw [hlen] at this
            simp [loadVar, isAgg_run ha, sizeS_run hs, this, SV.den]
          · cases h2
      | false =>
        simp only [ha] at h2
        cases hk : d.ks[c]? with
        | none => simp only [hk] at h2; cases h2
        | some k =>
          simp only [hk] at h2
          obtain ⟨rfl, rfl, _, _⟩ := M.pure_ok h2
          refine ⟨rfl, _, hden, ?_⟩
          have hc : w.cell? ⟨B.blk, B.off + ((e.den ρ).toNat * B.sz + c), none⟩ = some ((cellX (d.f + c) e k).den ρ id) := by rw [xcell hg]; exact x5 c k hk
          have hdn : (cellX (d.f + c) e k).den ρ φ = (cellX (d.f + c) e k).den ρ id := by cases k <;> rfl
          rw [hdn]
          simp [loadVar, isAgg_run ha, load, Sem.run, hc]
theorem delta_get (j i : Nat) : (List.replicate j 0 ++ [1]).getD i 0 = if i = j then 1 else 0 := by
  rw [List.getD_eq_getElem?_getD]
  by_cases h : i < j
  · rw [List.getElem?_append_left (by simpa using h), List.getElem?_replicate, if_pos h, if_neg (by omega)]; rfl
  · rw [List.getElem?_append_right (by simp; omega), List.length_replicate]
    by_cases e : i = j
    · subst e; simp
    · rw [if_neg e, List.getElem?_eq_none (by simp; omega)]; rfl
theorem selSum_den {e : IE} {i : Nat} (he : e.den ρ = i) : ∀ (l : List IE) (j : Nat), (selSum e j l).den ρ = if j ≤ i then (match l[i - j]? with | some x => x.den ρ | none => 0) else 0
  | [], j => by simp [selSum, IE.den]
  | x :: l, j => by
    simp only [selSum, IE.den, plI, selSum_den he l (j + 1), he, tabI, Int.toNat_natCast, delta_get]
    by_cases h1 : i = j
    · subst h1; rw [if_neg (show ¬ i + 1 ≤ i by omega)]; simp
    · by_cases h2 : j ≤ i
      · rw [if_neg h1, if_pos h2, if_pos (by omega), show i - j = (i - (j + 1)) + 1 by omega, List.getElem?_cons_succ]; simp
      · rw [if_neg h1, if_neg h2, if_neg (by omega)]; simp
theorem colE_ok {X : Ctx} (hX : Knows ρ X) {k : IntKind} {cells : List SV} {sz : Nat} : ∀ {n o : Nat} {xs : List IE}, colE X k cells sz n o = some xs → ∀ i, i < n → ∃ x, xs[i]? = some x ∧ cells[o + i * sz]? = some (.int k x) ∧ k.min ≤ x.den ρ ∧ x.den ρ ≤ k.max
  | 0, o, xs, h, i, hi => by omega
  | n + 1, o, xs, h, i, hi => by
    unfold colE at h
    split at h
    · rename_i l x hc
      split at h
      · rename_i hk
        subst hk
        split at h
        · rename_i hf
          obtain ⟨ys, hy, rfl⟩ := Option.map_eq_some_iff.1 h
          cases i with
          | zero => exact ⟨x, rfl, by simpa using hc, fits_ok hX hf⟩
          | succ i =>
            obtain ⟨y, h1, h2, h3⟩ := colE_ok hX hy i (by omega)
            exact ⟨y, by simpa using h1, by rw [← h2]; congr 1; rw [Nat.succ_mul]; omega, h3⟩
        · cases h
      · cases h
    · cases h
theorem inN_ok {X : Ctx} (hX : Knows ρ X) {n : Nat} {e : IE} {s s' : S} {u : Unit} {r wl : List Loc} (h : inN X n e s = .ok u s' r wl) : ∃ i : Nat, e.den ρ = i ∧ i < n ∧ s' = s := by
  unfold inN at h
  obtain ⟨neg, s1, _, _, _, _, h1, h2, _, _⟩ := M.bind_ok h
  obtain ⟨d1, rfl⟩ := decI_ok hX h1
  obtain ⟨low, s2, _, _, _, _, h3, h4, _, _⟩ := M.bind_ok h2
  obtain ⟨d2, rfl⟩ := decI_ok hX h3
  split at h4
  · rename_i hc
    obtain ⟨_, rfl, _, _⟩ := M.pure_ok h4
    simp only [Bool.and_eq_true, Bool.not_eq_true'] at hc
    obtain ⟨rfl, rfl⟩ := hc
    have l0 : ¬ e.den ρ < 0 := of_decide_eq_false d1
    have l1 : e.den ρ < (n : Nat) := of_decide_eq_true d2
    exact ⟨(e.den ρ).toNat, by omega, by omega, rfl⟩
  · cases h4
theorem selCell_ok {X : Ctx} (hX : Knows ρ X) {cells : List SV} {sz n o i : Nat} {e : IE} {v : SV} (he : e.den ρ = i) (hi : i < n) (h : selCell X cells sz n o e = some v) : ∃ u, cells[o + i * sz]? = some u ∧ v.den ρ φ = u.den ρ φ := by
  unfold selCell at h
  split at h
  · rename_i k x0 hc
    obtain ⟨xs, hx, rfl⟩ := Option.map_eq_some_iff.1 h
    obtain ⟨x, h1, h2, h3⟩ := colE_ok hX hx i hi
    refine ⟨_, h2, ?_⟩
    simp only [SV.den, nameI_den hX.pc hX.nm, IE.den]
    rw [selSum_den he, if_pos (Nat.zero_le _), Nat.sub_zero, h1]
    rw [wrap_within h3]
  · cases h
theorem selCells_ok {X : Ctx} (hX : Knows ρ X) {cells : List SV} {sz n i : Nat} {e : IE} (he : e.den ρ = i) (hi : i < n) : ∀ {m o : Nat} {vs : List SV}, selCells X cells sz n e m o = some vs → vs.length = m ∧ ∀ j, j < m → ∃ v u, vs[j]? = some v ∧ cells[o + i * sz + j]? = some u ∧ v.den ρ φ = u.den ρ φ
  | 0, o, vs, h => by cases h; exact ⟨rfl, fun j hj => by omega⟩
  | m + 1, o, vs, h => by
    unfold selCells at h
    cases h1 : selCell X cells sz n o e with
    | none => simp [h1] at h
    | some v =>
      cases h2 : selCells X cells sz n e m (o + 1) with
      | none => simp [h1, h2] at h
      | some l =>
        simp only [h1, h2, Option.some.injEq] at h
        subst h
        obtain ⟨k1, k2⟩ := selCells_ok hX he hi h2
        obtain ⟨u, k3, k4⟩ := selCell_ok (φ := φ) hX he hi h1
        refine ⟨by simp [k1], fun j hj => ?_⟩
        cases j with
        | zero => exact ⟨v, u, rfl, k3, k4⟩
        | succ j =>
          obtain ⟨v', u', e1, e2, e3⟩ := k2 j (by omega)
          exact ⟨v', u', by simpa using e1, by rw [← e2]; congr 1; omega, e3⟩
theorem addrS_ok {X : Ctx} (hX : Knows ρ X) {len n b off : Nat} {e : IE} {v : SV} {st' : Store} {r wl : List Loc} (h : addrS X len n b off e st = .ok v st' r wl) :
    st' = st ∧ ∃ j : Nat, e.den ρ = j ∧ j < len ∧ v.den ρ φ = .pointer (some ⟨φ b, off + j * n, none⟩) ∧ notPan v = true := by
  unfold addrS at h
  split at h
  · obtain ⟨_, s1, _, _, _, _, h1, h2, _, _⟩ := M.bind_ok h
    obtain ⟨i, he, hi, rfl⟩ := inN_ok hX h1
    obtain ⟨rfl, rfl, _, _⟩ := M.pure_ok h2
    exact ⟨rfl, i, he, hi, by simp only [SV.den, he, Int.toNat_natCast, Nat.add_zero], rfl⟩
  · obtain ⟨j, s1, _, _, _, _, h1, h2, _, _⟩ := M.bind_ok h
    obtain ⟨e1, hlt, rfl⟩ := place_ok hX h1
    obtain ⟨rfl, rfl, _, _⟩ := M.pure_ok h2
    exact ⟨rfl, j, e1, hlt, rfl, rfl⟩
theorem loadV_ok {X : Ctx} (hX : Knows ρ X) {t : TypeId} {b off sz n c : Nat} {e : IE} {v : SV} {st' : Store} {r wl : List Loc} (h : loadV P X t b off sz n e c st = .ok v st' r wl) (hr : RelS P ρ E w0 φ st w) :
    st' = st ∧ (loadVar t ⟨φ b, off + ((e.den ρ).toNat * sz + c), none⟩).run P w = .ok (v.den ρ φ) w := by
  unfold loadV at h
  obtain ⟨_, s1, _, _, _, _, h1, h2, _, _⟩ := M.bind_ok h
  obtain ⟨i, he, hi, rfl⟩ := inN_ok hX h1
  obtain ⟨B, s2, _, _, _, _, h3, h4, _, _⟩ := M.bind_ok h2
  obtain ⟨hB, rfl⟩ := rdB_ok h3
  split at h4
  · cases h4
  · rename_i hrow
    have hrow : headIs B.cells = false := by simpa using hrow
    obtain ⟨rest, fr, hg, htot, hclear⟩ := hr.row hB hrow
    have hlB : (SV.denL ρ φ B.cells).length = B.cells.length := by rw [denL_map]; simp
    rw [he, Int.toNat_natCast]
    cases ha : aggS P t with
    | none => simp only [ha] at h4; cases h4
    | some x =>
      cases x with
      | true =>
        simp only [ha] at h4
        cases hs : sizeS P t with
        | none => simp only [hs] at h4; cases h4
        | some m =>
          simp only [hs] at h4
          cases hc : selCells X B.cells sz n e m (off + c) with
          | none => simp only [hc] at h4; cases h4
          | some cs =>
            simp only [hc] at h4
            obtain ⟨rfl, rfl, _, _⟩ := M.pure_ok h4
            obtain ⟨k1, k2⟩ := selCells_ok (φ := φ) hX he hi hc
            refine ⟨rfl, ?_⟩
            by_cases hm : m = 0
            · subst hm
              obtain rfl : cs = [] := List.length_eq_zero_iff.1 k1
              have := run_loadCells_list (P := P) w ⟨φ b, off + (i * sz + c), none⟩ [] (fun j v hv => by simp at hv)
              simp at this
              simp [loadVar, isAgg_run ha, sizeS_run hs, this, SV.den, SV.denL]
            have hle : off + (i * sz + c) + m ≤ B.cells.length := by
              obtain ⟨v, u, _, e2, _⟩ := k2 (m - 1) (by omega)
              have := (List.getElem?_eq_some_iff.1 e2).1
              omega
            have hl := run_load_agg (P := P) (off := off + (i * sz + c)) hg ha hs (by rw [List.length_append]; omega)
            rw [hl]
            simp only [SV.den]
            congr 3
            apply List.ext_getElem?
            intro j
            rw [List.getElem?_take]
            split
            · rename_i hj
              obtain ⟨v, u, e1, e2, e3⟩ := k2 j hj
              have hlt := (List.getElem?_eq_some_iff.1 e2).1
              rw [List.getElem?_drop, List.getElem?_append_left (by rw [hlB]; omega), denL_map, denL_map, List.getElem?_map, List.getElem?_map, e1, show off + (i * sz + c) + j = off + c + i * sz + j by omega, e2]
              simp [e3]
            · rw [denL_map, List.getElem?_map, List.getElem?_eq_none (by omega)]; rfl
      | false =>
        simp only [ha] at h4
        cases hc : selCell X B.cells sz n (off + c) e with
        | none => simp only [hc] at h4; cases h4
        | some u =>
          simp only [hc] at h4
          obtain ⟨rfl, rfl, _, _⟩ := M.pure_ok h4
          obtain ⟨x, e1, e2⟩ := selCell_ok (φ := φ) hX he hi hc
          have hlt := (List.getElem?_eq_some_iff.1 e1).1
          refine ⟨rfl, ?_⟩
          rw [e2]
          exact run_load_one hg ha (by rw [List.getElem?_append_left (by rw [hlB]; omega), denL_map, List.getElem?_map, show off + (i * sz + c) = off + c + i * sz by omega, e1]; rfl)
theorem headIs_parts {v : SV} {cs : List SV} (h : v.parts = some cs) : headIs cs = false := by
  have key : ∀ u : SV, u.one = true → ∀ l, headIs (u :: l) = false := fun u hu l => by cases u <;> first | rfl | (simp [SV.one] at hu)
  unfold SV.parts at h
  split at h
  · rename_i l
    split at h
    · rename_i ha
      cases h
      cases cs with
      | nil => rfl
      | cons u l => exact key u (List.all_eq_true.1 ha u (by simp)) l
    · cases h
  · split at h
    · rename_i ho; cases h; exact key _ ho _
    · cases h
/-- cells laid into a row: what is known of it, and what is not -/
theorem lay_list {xs ys rest : List Value} {off n : Nat} (hn : ys.length = n) (hl : off + n ≤ xs.length) :
    (xs ++ rest).take off ++ ys ++ (xs ++ rest).drop (off + n) = (xs.take off ++ ys ++ xs.drop (off + n)) ++ rest := by
  rw [List.take_append_of_le_length (by omega), List.drop_append_of_le_length (by omega)]
  simp
theorem wrR_ok {b : Nat} {B : Blk} {cs : List SV} {st' : Store} {r wl : List Loc} {u : Unit} (h : wrR b B cs st = .ok u st' r wl) : headIs cs = false ∧ cs.length = B.cells.length ∧ st' = st.set b { B with cells := cs } := by
  unfold wrR at h
  split at h
  · cases h
  · rename_i hc
    simp only [Bool.or_eq_true, Bool.not_eq_true', not_or, Bool.not_eq_true, Bool.not_eq_false, Nat.beq_eq] at hc
    exact ⟨hc.1, hc.2, wrB_ok h⟩
theorem storeS_ok {t : TypeId} {b off : Nat} {v x : SV} {st' : Store} {r wl : List Loc} (h : storeS P t b off v st = .ok x st' r wl) (hr : RelS P ρ E w0 φ st w) (hcl : ∀ cs, v.parts = some cs → ∀ c ∈ SV.idsL cs, (st.get c).isSome) :
    x = .raw undef ∧ ∃ w', Step P ρ E w0 φ st φ st' w' ∧ (storeVar t ⟨φ b, off, none⟩ (v.den ρ φ)).run P w = .ok () w' := by
  unfold storeS at h
  cases hp : v.parts with
  | none => simp only [hp] at h; cases h
  | some cs =>
    cases hs : sizeS P t with
    | none => simp only [hp, hs] at h; cases h
    | some n =>
      simp only [hp, hs] at h
      split at h
      · rename_i he
        simp only [Bool.and_eq_true, Nat.beq_eq, List.isEmpty_iff] at he
        obtain ⟨rfl, rfl⟩ := he
        obtain ⟨rfl, rfl, _, _⟩ := M.pure_ok h
        obtain ⟨hcells, hone⟩ := parts_den (ρ := ρ) (φ := φ) hp
        refine ⟨rfl, w, Step.refl hr, ?_⟩
        simp only [storeVar, Sem.run_bind, sizeS_run hs, Result.andThen_ok, hcells, SV.denL, List.size_toArray, List.length_nil, ne_eq, not_true_eq_false, if_false, List.toList_toArray]
        rfl
      obtain ⟨B, s1, _, _, _, _, h1, h2, _, _⟩ := M.bind_ok h
      obtain ⟨hB, rfl⟩ := rdB_ok h1
      split at h2
      · rename_i hle
        simp only [Bool.and_eq_true, Nat.beq_eq, Bool.not_eq_true', List.isEmpty_eq_false_iff] at hle
        obtain ⟨⟨⟨hrow, hle1⟩, hle2⟩, hne⟩ := hle
        have hle2 := Nat.le_of_ble_eq_true hle2
        obtain ⟨_, s2, _, _, _, _, h3, h4, _, _⟩ := M.bind_ok h2
        obtain ⟨hrow', hlen', rfl⟩ := wrR_ok h3
        obtain ⟨rfl, rfl, _, _⟩ := M.pure_ok h4
        obtain ⟨hcells, hone⟩ := parts_den (ρ := ρ) (φ := φ) hp
        obtain ⟨rest, fr, hg, htot, hclear⟩ := hr.row hB hrow
        have hlen : (SV.denL ρ φ cs).length = n := by rw [denL_map]; simpa using hle1
        have hlB : (SV.denL ρ φ B.cells).length = B.cells.length := by rw [denL_map]; simp
        have hden : SV.denL ρ φ (B.cells.take off ++ cs ++ B.cells.drop (off + n)) = (SV.denL ρ φ B.cells).take off ++ SV.denL ρ φ cs ++ (SV.denL ρ φ B.cells).drop (off + n) := by
          simp [denL_map, List.map_take, List.map_drop]
        refine ⟨rfl, _, hr.putR b B (B.cells.take off ++ cs ++ B.cells.drop (off + n)) rest hB hne hrow hrow' (fun c hc => ?_) ?_, ?_⟩
        · rw [mem_idsL] at hc
          obtain ⟨y, hy, hcy⟩ := hc
          simp only [List.mem_append] at hy
          rcases hy with (hy | hy) | hy
          · exact hr.cl b B hB c (mem_idsL.2 ⟨y, List.mem_of_mem_take hy, hcy⟩)
          · exact hcl cs hp c (mem_idsL.2 ⟨y, hy, hcy⟩)
          · exact hr.cl b B hB c (mem_idsL.2 ⟨y, List.mem_of_mem_drop hy, hcy⟩)
        · rw [← htot, List.length_append, List.length_append, denL_map, denL_map, List.length_map, List.length_map, hlen']
        · have := run_storeCells_clear P (φ b) off B.ty fr (SV.denL ρ φ cs) 0 _ w hg (by simpa [htot] using hclear) (by simp [hlen, hlB]; omega) hone
          simp only [Nat.add_zero, hlen] at this
          simp only [storeVar, Sem.run_bind, sizeS_run hs, Result.andThen_ok, hcells, List.size_toArray, hlen, ne_eq, not_true_eq_false, if_false, List.toList_toArray]
          rw [this]
          have e := lay_list (xs := SV.denL ρ φ B.cells) (rest := rest) hlen (by omega : off + n ≤ _)
          rw [e, hden]
      · cases h2
end Ev
end Go.Proofs.Ytmgfnejiienghaa
/- A checked evaluator: each operation. -/
namespace Go.Proofs.Ytmgfnejiienghaa
open Go Go.RowKit
set_option linter.unusedVariables false
namespace Ev
variable {P : Program} {ρ : Env} {E : List (Nat × Nat)} {w0 : World} {φ : Nat → Nat} {st : Store} {w : World}

theorem newB_ok {id : Nat} {B : Blk} {st' : Store} {r wl : List Loc} {u : Unit} (h : newB id B st = .ok u st' r wl) : st.get id = none ∧ id % 1048576 ≠ 0 ∧ st' = (id, B) :: st := by
  unfold newB at h
  cases hB : st.get id with
  | none =>
    simp only [hB] at h
    split at h
    · cases h
    · rename_i hz; cases h; exact ⟨rfl, by simpa using hz, rfl⟩
  | some C => simp only [hB] at h; cases h
theorem chk_ok {l : List Nat} {st' : Store} {r wl : List Loc} {u : Unit} (h : chk l st = .ok u st' r wl) : st' = st ∧ ∀ c ∈ l, (st.get c).isSome := by
  unfold chk at h
  split at h
  · rename_i ha
    cases h
    exact ⟨rfl, fun c hc => List.all_eq_true.1 ha c hc⟩
  · cases h
theorem newR_ok {id : Nat} {B : Blk} {st' : Store} {r wl : List Loc} {u : Unit} (h : newR id B st = .ok u st' r wl) :
    st.get id = none ∧ id % 1048576 ≠ 0 ∧ (∀ c ∈ SV.idsL B.cells, (st.get c).isSome) ∧ headIs B.cells = false ∧ st' = (id, B) :: st := by
  unfold newR at h
  obtain ⟨_, s1, _, _, _, _, h1, h2, _, _⟩ := M.bind_ok h
  obtain ⟨rfl, hcl⟩ := chk_ok h1
  split at h2
  · cases h2
  · rename_i hh
    obtain ⟨h3, h4, h5⟩ := newB_ok h2
    exact ⟨h3, h4, hcl, by simpa using hh, h5⟩

/-- blocks laid by a row of cells -/
theorem newRow_run (t : TypeId) (cs : Array Value) (w : World) : (newRow t cs).run P w = .ok ⟨w.heap.size, 0, none⟩ (w.alloc (.cells cs t)) := by
  rfl
theorem zeroS_run {t : TypeId} {cs : List SV} (h : zeroS P t = some cs) (w : World) : ∃ z, (zeroValue t).run P w = .ok z w ∧ z.cells = (SV.denL ρ φ cs).toArray := by
  unfold zeroS at h
  cases hq : P.info? t with
  | none => simp [hq] at h
  | some i =>
    simp only [hq, Option.bind_some] at h
    cases hz : i.zero with
    | none => simp [hz] at h
    | some z =>
      simp only [hz, Option.bind_some] at h
      refine ⟨z, by simp [zeroValue, typeInfo, hq, hz], ?_⟩
      rw [← (parts_den (ρ := ρ) (φ := φ) h).1, ofValue_den]
theorem parts_ids {v : SV} {cs : List SV} (h : v.parts = some cs) : ∀ c ∈ SV.idsL cs, c ∈ v.ids := by
  unfold SV.parts at h
  split at h
  · split at h
    · cases h; intro c hc; simpa [SV.ids] using hc
    · cases h
  · split at h
    · cases h; intro c hc; simpa [SV.idsL] using hc
    · cases h
theorem zeroS_ids {t : TypeId} {cs : List SV} (h : zeroS P t = some cs) : SV.idsL cs = [] := by
  unfold zeroS at h
  cases hq : P.info? t with
  | none => simp [hq] at h
  | some i =>
    simp only [hq, Option.bind_some] at h
    cases hz : i.zero with
    | none => simp [hz] at h
    | some z =>
      simp only [hz, Option.bind_some] at h
      have := parts_ids h
      rw [ofValue_ids] at this
      exact List.eq_nil_iff_forall_not_mem.2 fun c hc => by cases this c hc

theorem intBits_run {op : BinOp} {k : IntKind} {x y : Int} (ho : op = .and ∨ op = .or ∨ op = .xor ∨ op = .andNot) (w : World) : (Op.intBits op k x y).run P w = .ok (.int k (arI op k x y)) w := by
  rcases ho with rfl | rfl | rfl | rfl <;> simp [Op.intBits, arI, bitsI]
theorem binOp_int {op : BinOp} {k : IntKind} {a b : IE} {t : TypeId} {v : SV} {X : Ctx} (hX : Knows ρ X) {l : IntKind} {st' : Store} {r wl : List Loc} (h : binI X op k l a b st = .ok v st' r wl) (w : World) :
    st' = st ∧ (binOp op t (.int k (a.den ρ)) (.int l (b.den ρ))).run P w = .ok (v.den ρ φ) w := by
  unfold binI at h
  cases op <;> dsimp only at h
  case shl | shr =>
    obtain ⟨u, s1, _, _, _, _, h1, h2, _, _⟩ := M.bind_ok h
    obtain ⟨e, rfl⟩ := decI_ok hX h1
    split at h2
    · cases h2
    · rename_i hu
      obtain ⟨rfl, rfl, _, _⟩ := M.pure_ok h2
      refine ⟨rfl, ?_⟩
      have hb : ¬ b.den ρ < 0 := by
        intro hh
        apply hu
        rw [← e]
        exact decide_eq_true hh
      simp [binOp, Op.shift, hb, SV.den, mkArX_den hX, arI]
  case quo | rem =>
    split at h
    · rename_i hk
      subst hk
      obtain ⟨u, s1, _, _, _, _, h1, h2, _, _⟩ := M.bind_ok h
      obtain ⟨e, rfl⟩ := decI_ok hX h1
      split at h2
      · cases h2
      · rename_i hu
        obtain ⟨rfl, rfl, _, _⟩ := M.pure_ok h2
        refine ⟨rfl, ?_⟩
        have hb : ¬ b.den ρ = 0 := by
          intro hh
          apply hu
          rw [← e]
          simpa [cmpI, IE.den] using hh
        simp [binOp, Op.intDiv, hb, SV.den, mkArX_den hX, arI]
    · cases h
  case and | or | xor | andNot =>
    split at h
    · rename_i hk
      subst hk
      obtain ⟨rfl, rfl, _, _⟩ := M.pure_ok h
      refine ⟨rfl, ?_⟩
      simp [binOp, SV.den, mkArX_den hX, intBits_run]
    · cases h
  case add | sub | mul =>
    split at h
    · rename_i hk
      subst hk
      obtain ⟨rfl, rfl, _, _⟩ := M.pure_ok h
      refine ⟨rfl, ?_⟩
      simp [binOp, Op.intArith, SV.den, mkArX_den hX, arI]
    · cases h
  all_goals
    split at h
    · rename_i hk
      subst hk
      obtain ⟨rfl, rfl, _, _⟩ := M.pure_ok h
      refine ⟨rfl, ?_⟩
      simp [binOp, Op.intCmp, SV.den, mkCmp_den, cmpI]
    · cases h
end Ev
end Go.Proofs.Ytmgfnejiienghaa
/- A checked evaluator: parts of structs, arrays and slices; equality of structs. -/
namespace Go.Proofs.Ytmgfnejiienghaa
open Go Go.RowKit
set_option linter.unusedVariables false
namespace Ev
variable {P : Program} {ρ : Env} {E : List (Nat × Nat)} {w0 : World} {φ : Nat → Nat} {st : Store} {w : World}

theorem splice_fold (off : Nat) : ∀ (cs : List Value) (j : Nat) (l : List Value), off + j + cs.length ≤ l.length →
    (cs.zipIdx j).foldl (fun (acc : Array Value) (p : Value × Nat) => acc.setIfInBounds (off + p.2) p.1) l.toArray = (l.take (off + j) ++ cs ++ l.drop (off + j + cs.length)).toArray
  | [], j, l, h => by simp
  | c :: cs, j, l, h => by
    simp only [List.length_cons] at h
    simp only [List.zipIdx_cons, List.foldl_cons]
    have e : l.toArray.setIfInBounds (off + j) c = (l.set (off + j) c).toArray := by simp
    rw [e, splice_fold off cs (j + 1) _ (by simp; omega)]
    congr 1
    apply List.ext_getElem?
    intro i
    simp only [List.getElem?_append, List.length_append, List.length_take, List.length_set, List.length_cons, List.getElem?_take, List.getElem?_drop, List.getElem?_set]
    have hm1 : min (off + (j + 1)) l.length = off + j + 1 := by omega
    have hm2 : min (off + j) l.length = off + j := by omega
    simp only [hm1, hm2]
    by_cases h1 : i < off + j
    · simp [h1, show i < off + j + 1 + cs.length by omega, show i < off + j + 1 by omega, show i < off + (j + 1) by omega, show i < off + j + (cs.length + 1) by omega, show ¬ off + j = i by omega]
    · by_cases h2 : i = off + j
      · subst h2
        simp [show off + j < off + j + 1 + cs.length by omega, show off + j < off + (j + 1) by omega, show off + j < l.length by omega]
      · by_cases h3 : i < off + j + 1 + cs.length
        · simp [h1, h3, show ¬ i < off + j + 1 by omega, show i < off + j + (cs.length + 1) by omega]
          rw [List.getElem?_cons, if_neg (by omega)]
          congr 1
        · simp [h3, show ¬ i < off + j + (cs.length + 1) by omega]
          rw [if_neg (by omega)]
          congr 1; omega
theorem fillS_ok (place : Nat → Option (Nat × Nat)) : ∀ (ps : List (Nat × SV)) (cells out : List SV), fillS place cells ps = some out →
    Instr.fill place (SV.denL ρ φ cells).toArray (ps.map fun p => (p.1, p.2.den ρ φ)) = some (SV.denL ρ φ out).toArray
  | [], cells, out, h => by
    simp only [fillS, Option.some.injEq] at h
    subst h; rfl
  | (i, v) :: ps, cells, out, h => by
    simp only [fillS] at h
    cases hp : place i with
    | none => simp [hp] at h
    | some q =>
      obtain ⟨off, size⟩ := q
      cases hv : v.parts with
      | none => simp [hp, hv] at h
      | some cs =>
        simp only [hp, hv] at h
        split at h
        · rename_i hle
          simp only [Bool.and_eq_true, Nat.beq_eq] at hle
          obtain ⟨h1, h2⟩ := hle
          have h2 := Nat.le_of_ble_eq_true h2
          have ih := fillS_ok place ps _ out h
          obtain ⟨hc, _⟩ := parts_den (ρ := ρ) (φ := φ) hv
          have hl1 : (SV.denL ρ φ cs).length = cs.length := by rw [denL_map]; simp
          have hl2 : (SV.denL ρ φ cells).length = cells.length := by rw [denL_map]; simp
          simp only [List.map_cons, Instr.fill, hp, hc, List.size_toArray, hl1, hl2, h1]
          have hno : ¬ (decide (size ≠ size) || decide (off + size > cells.length)) = true := by simp; omega
          rw [if_neg (by simpa [h1] using hno)]
          have hf := splice_fold off (SV.denL ρ φ cs) 0 (SV.denL ρ φ cells) (by rw [hl1, hl2]; omega)
          have hz : (SV.denL ρ φ cs).toArray.zipIdx = ((SV.denL ρ φ cs).zipIdx 0).toArray := by simp
          rw [hz]
          simp only [List.foldl_toArray']
          simp only [Nat.add_zero] at hf
          rw [hf]
          have he : (SV.denL ρ φ cells).take off ++ SV.denL ρ φ cs ++ (SV.denL ρ φ cells).drop (off + (SV.denL ρ φ cs).length) = SV.denL ρ φ (cells.take off ++ cs ++ cells.drop (off + cs.length)) := by
            rw [hl1]
            simp [denL_map, List.map_take, List.map_drop]
          rw [he]; exact ih
        · cases h
theorem denL_append (a b : List SV) : SV.denL ρ φ (a ++ b) = SV.denL ρ φ a ++ SV.denL ρ φ b := by simp [denL_map]
theorem denL_length (a : List SV) : (SV.denL ρ φ a).length = a.length := by simp [denL_map]
theorem zip_den : ∀ (is : List Nat) (vs : List SV), (is.zip vs).map (fun p => (p.1, p.2.den ρ φ)) = is.zip (SV.denL ρ φ vs)
  | [], vs => by simp
  | i :: is, [] => by simp [SV.denL]
  | i :: is, v :: vs => by simp [SV.denL, zip_den is vs]
theorem places_run : ∀ (fs : List Field), fs.all (fun f => (sizeS P f.type).isSome) = true →
    (fs.mapM (m := Sem) fun f => do pure (f.offset, ← sizeOf f.type)).run P w = .ok (fs.map fun f => (f.offset, (sizeS P f.type).getD 0)) w
  | [], _ => by simp
  | f :: fs, h => by
    simp only [List.all_cons, Bool.and_eq_true] at h
    obtain ⟨n, hn⟩ := Option.isSome_iff_exists.1 h.1
    have ih := places_run fs h.2
    simp only [List.mapM_cons, Sem.run_bind, sizeS_run hn, Result.andThen_ok, Sem.run_pure, ih, List.map_cons, hn, Option.getD_some]
theorem build_struct {t : TypeId} {fs : Array Field} {z out : List SV} {is : List Nat} {vs : List SV} (hu : P.underlying t = some (.struct fs)) (hz : zeroS P t = some z) (hall : fs.all (fun f => (sizeS P f.type).isSome) = true)
    (hf : fillS (placeS P fs) z (is.zip vs) = some out) (w : World) :
    (Instr.build t (is.zip (SV.denL ρ φ vs)).toArray).run P w = .ok (.agg (SV.denL ρ φ out).toArray) w := by
  obtain ⟨zv, hzr, hzc⟩ := zeroS_run (ρ := ρ) (φ := φ) hz w
  have hm : (fs.mapM (m := Sem) fun f => do pure (f.offset, ← sizeOf f.type)).run P w = .ok (fs.toList.map fun f => (f.offset, (sizeS P f.type).getD 0)).toArray w := by
    have h1 := places_run (P := P) (w := w) fs.toList (by simpa using hall)
    have h2 : (fs.mapM (m := Sem) fun f => do pure (f.offset, ← sizeOf f.type)) = (fs.toList.mapM (m := Sem) fun f => do pure (f.offset, ← sizeOf f.type)) >>= fun l => pure l.toArray := by
      rw [Array.mapM_eq_mapM_toList]; rfl
    rw [h2, Sem.run_bind, h1]; rfl
  have hfill := fillS_ok (ρ := ρ) (φ := φ) _ _ _ _ hf
  rw [zip_den] at hfill
  have hplace : (fun (i : Nat) => (fs.toList.map fun (f : Field) => (f.offset, (sizeS P f.type).getD 0)).toArray[i]?) = placeS P fs := by
    funext i
    unfold placeS
    cases hi : fs[i]? with
    | none => simp [hi]
    | some f =>
      have hs : (sizeS P f.type).isSome := by
        rw [Array.all_eq_true'] at hall
        exact hall f (Array.mem_of_getElem? hi)
      obtain ⟨n, hn⟩ := Option.isSome_iff_exists.1 hs
      simp [hi, hn]
  simp only [Instr.build, Sem.run_bind, hzr, Result.andThen_ok, run_underlying hu, hm, hzc, hplace, hfill, Sem.run_pure]
theorem build_array {t elem : TypeId} {len n : Nat} {z out : List SV} {is : List Nat} {vs : List SV} (hu : P.underlying t = some (.array len elem)) (hz : zeroS P t = some z) (hs : sizeS P elem = some n)
    (hf : fillS (fun i => some (i * n, n)) z (is.zip vs) = some out) (w : World) :
    (Instr.build t (is.zip (SV.denL ρ φ vs)).toArray).run P w = .ok (.agg (SV.denL ρ φ out).toArray) w := by
  obtain ⟨zv, hzr, hzc⟩ := zeroS_run (ρ := ρ) (φ := φ) hz w
  have hfill := fillS_ok (ρ := ρ) (φ := φ) _ _ _ _ hf
  rw [zip_den] at hfill
  simp only [Instr.build, Sem.run_bind, hzr, Result.andThen_ok, run_underlying hu, hzc, sizeS_run hs, hfill, Sem.run_pure]
theorem repl_get (z : List Value) (n : Nat) (hn : z.length = n) : ∀ len : Nat, (Array.range (len * n)).map (fun i => z.toArray[i % z.toArray.size]!) = (List.replicate len z).flatten.toArray := by
  intro len
  apply Array.ext_getElem?
  intro i
  have hlen : ∀ len, ((List.replicate len z).flatten).length = len * n := fun len => by simp [hn]
  have key : ∀ len i, i < len * n → ((List.replicate len z).flatten)[i]? = z[i % n]? := by
    intro len
    induction len with
    | zero => intro i h; simp at h
    | succ len ih =>
      intro i h
      rw [List.replicate_succ, List.flatten_cons, List.getElem?_append]
      split
      · rename_i h1
        rw [Nat.mod_eq_of_lt (by omega)]
      · rename_i h1
        rw [Nat.succ_mul] at h
        rw [ih (i - z.length) (by omega), hn]
        have : n ≤ i := by omega
        rw [Nat.mod_eq_sub_mod this]
  by_cases h : i < len * n
  · have hn0 : 0 < n := by
      rcases Nat.eq_zero_or_pos n with h0 | h0
      · subst h0; simp at h
      · exact h0
    have hm : i % n < z.length := by rw [hn]; exact Nat.mod_lt _ hn0
    have hk := key len i h
    have e : (List.replicate len z).flatten.toArray[i]? = z[i % n]? := by rw [← hk]; simp
    rw [e, List.getElem?_eq_getElem hm]
    simp [h, hn]
    rw [List.getElem?_eq_getElem hm]; rfl
  · have hl := hlen len
    rw [Array.getElem?_eq_none (by simp only [Array.size_map, Array.size_range]; omega), Array.getElem?_eq_none (by simp only [List.size_toArray]; omega)]
theorem buildSlice_run {t elem : TypeId} {len n : Nat} {z out : List SV} {is : List Nat} {vs : List SV} (hu : P.underlying t = some (.slice elem)) (hz : zeroS P elem = some z) (hs : sizeS P elem = some n) (hl : z.length = n) (hle : len * n ≤ 16777216)
    (hf : fillS (fun i => some (i * n, n)) (List.replicate len z).flatten (is.zip vs) = some out) (w : World) :
    (Instr.buildSlice t len (is.zip (SV.denL ρ φ vs)).toArray).run P w = .ok (.slice (some ⟨w.heap.size, 0, none⟩) len len) (w.alloc (.cells (SV.denL ρ φ out).toArray elem)) := by
  obtain ⟨zv, hzr, hzc⟩ := zeroS_run (ρ := ρ) (φ := φ) hz w
  have hfill := fillS_ok (ρ := ρ) (φ := φ) _ _ _ _ hf
  rw [zip_den] at hfill
  have hrep : (SV.denL ρ φ (List.replicate len z).flatten) = (List.replicate len (SV.denL ρ φ z)).flatten := by simp [denL_map, List.map_flatten]
  have hg := repl_get (SV.denL ρ φ z) n (by rw [denL_length]; exact hl) len
  rw [hrep, ← hg] at hfill
  have hno : ¬ len * n > 2 ^ 24 := by omega
  by_cases h0 : len * n = 0
  · have hr : ∀ f : Nat → Value, (Array.range (len * n)).map f = #[] := fun f => by rw [h0]; simp
    simp only [hr] at hfill
    simp only [Instr.buildSlice, Sem.run_bind, run_underlying hu, Result.andThen_ok, sizeS_run hs, if_neg hno, Sem.run_pure, if_pos h0, hr, hfill, newRow_run]
  · simp only [Instr.buildSlice, Sem.run_bind, run_underlying hu, Result.andThen_ok, sizeS_run hs, if_neg hno, Sem.run_pure, if_neg h0, hzr, hzc, hfill, newRow_run]
end Ev
end Go.Proofs.Ytmgfnejiienghaa
