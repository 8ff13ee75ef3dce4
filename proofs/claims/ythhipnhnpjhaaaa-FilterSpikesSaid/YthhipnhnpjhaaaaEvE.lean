/- A checked evaluator: what it says of an operation is what the model does. -/
import Derived.Test.YthhipnhnpjhaaaaEvD
import Derived.TacticsIn
namespace Go.Proofs.Ythhipnhnpjhaaaa
open Go Go.RowKit
set_option linter.unusedVariables false
namespace Ev
variable {P : Program} {ρ : Env} {E : List (Nat × Nat)} {w0 : World} {φ : Nat → Nat} {st : Store} {w : World}

/-- the fence that lets everything in, in a round or in none -/
def FW (r : Option Nat) : Fence := { Fence.wide with round := r }
theorem FW_room (r : Option Nat) (n : Nat) : (FW r).room n := fun d hd => by cases hd
theorem callsIn_FW {r : Option Nat} {n : Nat} {f : FuncId} {args : Array Value} {R : Ending → World → Prop} (h : Calls P f args w R) : CallsIn (FW r) n P f args w R :=
  callsIn_wide.2 h
theorem calls_FW {r : Option Nat} {n : Nat} {f : FuncId} {args : Array Value} {R : Ending → World → Prop} (h : CallsIn (FW r) n P f args w R) : Calls P f args w R :=
  callsIn_wide.1 h
/-- how a call ends -/
def endOf (ρ : Env) (φ : Nat → Nat) : SV → Ending
  | .panv u => .panicked [{ v := u.den ρ φ, recovered := false }]
  | v => .returned (v.den ρ φ)
theorem endOf_ret {v : SV} (h : notPan v = true) : endOf ρ φ v = .returned (v.den ρ φ) := by
  cases v <;> first | rfl | (simp [notPan] at h)
/-- a call that is worked out: what it says is what the callee does -/
def CallOk (P : Program) (ρ : Env) (E : List (Nat × Nat)) (call : FuncId → List SV → Nat → M Store SV) : Prop :=
  ∀ f vs id st v st' r wl, call f vs id st = .ok v st' r wl → ∀ w0 φ w, RelS P ρ E w0 φ st w →
    (∀ args w', (callFunc f args).run P w' = .ok (.enter f args) w') ∧
    Calls P f (SV.denL ρ φ vs).toArray w fun e w' => ∃ φ', Step P ρ E w0 φ st φ' st' w' ∧ e = endOf ρ φ' v
/-- a round of a range over a function -/
def RoundOk (P : Program) (ρ : Env) (E : List (Nat × Nat)) (rnd : Nat → List SV → Nat → M Store SV) : Prop :=
  ∀ b vs id st v st' r wl, rnd b vs id st = .ok v st' r wl → ∀ w0 φ w, RelS P ρ E w0 φ st w →
    ∃ f tmps as body, (Instr.yield (φ b) (SV.denL ρ φ vs).toArray).run P w = .ok (.round (φ b) f tmps as body) w ∧ notPan v = true ∧
    ∀ r, RoundIn (FW r) 0 P (φ b) f tmps as body w fun e w' => ∃ φ', Step P ρ E w0 φ st φ' st' w' ∧ e = .returned (v.den ρ φ')
/-- what an operation leads to -/
def outc (ρ : Env) (φ : Nat → Nat) (v : SV) (dst : Option Tmp) (next : Act → World → Prop) (Q : Exit → Act → World → Prop) (a : Act) (w : World) : Prop :=
  match v with
  | .panv u => Q (.panic [{ v := u.den ρ φ, recovered := false }]) a w
  | v => next (a.put dst (v.den ρ φ)) w
theorem outc_put {v : SV} {dst : Option Tmp} {next : Act → World → Prop} {Q : Exit → Act → World → Prop} {a : Act} (h : notPan v = true) : outc ρ φ v dst next Q a w ↔ next (a.put dst (v.den ρ φ)) w := by
  cases v <;> first | exact Iff.rfl | (simp [notPan] at h)
section
variable {r : Option Nat} {o : Oper} {a : Act} {next : Act → World → Prop} {Q : Exit → Act → World → Prop}
theorem wpI_of (hd : ∀ c, o.op ≠ .defer c) (h : o.uponIn (FW r) 0 P a next Q ((execOp a.eval o).run P w)) : o.wpIn (FW r) 0 P a w next Q :=
  ⟨fun _ _ => trivial, by rw [Oper.semAt_eq _ _ _ hd]; exact h⟩
theorem wp_value {x : Value} {w' : World} (hd : ∀ c, o.op ≠ .defer c) (h : (execOp a.eval o).run P w = .ok (.value x) w') (hn : next (a.put o.dst x) w') : o.wpIn (FW r) 0 P a w next Q :=
  wpI_of hd (by rw [h]; exact hn)
theorem wp_skip' {w' : World} (hd : ∀ c, o.op ≠ .defer c) (h : (execOp a.eval o).run P w = .ok .skip w') (hn : next (a.put o.dst undef) w') : o.wpIn (FW r) 0 P a w next Q :=
  wpI_of hd (by rw [h]; exact hn)
theorem wp_panic' {x : Value} {w' : World} (hd : ∀ c, o.op ≠ .defer c) (h : (execOp a.eval o).run P w = .halt (.panic x) w') (hn : Q (.panic [{ v := x, recovered := false }]) a w') : o.wpIn (FW r) 0 P a w next Q :=
  wpI_of hd (by rw [h]; exact hn)
theorem wp_enter' {f : FuncId} {args : Array Value} (hd : ∀ c, o.op ≠ .defer c) (h : (execOp a.eval o).run P w = .ok (.enter f args) w)
    (hc : Calls P f args w fun e w' => (∃ v, e = .returned v ∧ next (a.put o.dst v) w') ∨ (∃ ch, e = .panicked ch ∧ Q (.panic ch) a w')) : o.wpIn (FW r) 0 P a w next Q := by
  refine wpI_of hd ?_
  rw [h]
  refine ⟨fun hh => (by cases hh), callsIn_FW (hc.mono fun e w' he => ?_)⟩
  rcases he with ⟨v, rfl, hn⟩ | ⟨ch, rfl, hn⟩
  · exact hn
  · exact hn
theorem wp_round' {l : Nat} {f : FuncId} {tmps : Array Value} {as body : Code} (hd : ∀ c, o.op ≠ .defer c) (h : (execOp a.eval o).run P w = .ok (.round l f tmps as body) w)
    (hc : RoundIn (FW r) 0 P l f tmps as body w fun e w' => ∃ v, e = .returned v ∧ next (a.put o.dst v) w') : o.wpIn (FW r) 0 P a w next Q := by
  refine wpI_of hd ?_
  rw [h]
  exact ⟨fun hh => (by cases hh), hc.mono fun e w' ⟨v, he, hn⟩ => by subst he; exact hn⟩
end

/-- cells are stored in a row of which nothing is shared with strings -/
theorem run_storeCells_clear (P : Program) (g o : Nat) (t : TypeId) (fr : Nat × Nat) : ∀ (vs : List Value) (i : Nat) (cur : Array Value) (w : World), w.heap[g]? = some (.cells cur t fr) → clearOf fr cur.size → o + i + vs.length ≤ cur.size → (∀ v ∈ vs, v.oneCell' = true) →
    (storeCells ⟨g, o, none⟩ vs i).run P w = .ok () (w.setRow g (cur.toList.take (o + i) ++ vs ++ cur.toList.drop (o + i + vs.length)).toArray)
  | [], i, cur, w, hg, _, _, _ => by
    simp only [storeCells, List.append_nil, List.length_nil, Nat.add_zero, List.take_append_drop, Array.toArray_toList]
    rw [setRow_self w g cur t fr hg]
    rfl
  | v :: rest, i, cur, w, hg, hc, hl, h1 => by
    have hi : o + i < cur.size := by simp at hl; omega
    have hadd : (⟨g, o, none⟩ : Addr).add i = ⟨g, o + i, none⟩ := by unfold Addr.add; split <;> simp_all
    have hcell : w.cell? ⟨g, o + i, none⟩ = some cur[o + i] := by simp [World.cell?, hg, hi]
    have hfro : w.frozen? ⟨g, o + i, none⟩ = false := by
      obtain ⟨lo, hh⟩ := fr
      simp only [World.frozen?, hg]
      rcases hc with h | h
      · cases h; simp
      · simp only at h ⊢
        have : ¬ lo ≤ o + i := by omega
        simp [this]
    have hst : (store ((⟨g, o, none⟩ : Addr).add i) v).run P w = .ok () (w.setRow g (cur.setIfInBounds (o + i) v)) := by
      rw [hadd, run_store P w _ v _ (h1 v (by simp)), hcell]
      simp [hfro, setCell_eq_setRow w g (o + i) cur t fr v hg]
    have ih := run_storeCells_clear P g o t fr rest (i + 1) (cur.setIfInBounds (o + i) v) (w.setRow g (cur.setIfInBounds (o + i) v)) (setRow_heap w g cur _ t _ hg) (by simpa using hc) (by simp at hl ⊢; omega) (fun x hx => h1 x (by simp [hx]))
    simp only [storeCells, Sem.run_bind, hst, Result.andThen_ok, ih, setRow_setRow]
    congr 3
    have e := list_seg_step cur.toList (o + i) v rest (by simp at hl ⊢; omega)
    simpa [Array.toList_setIfInBounds, Nat.add_assoc] using e

theorem sizeS_run {t : TypeId} {n : Nat} (h : sizeS P t = some n) (w : World) : (sizeOf t).run P w = .ok n w := by
  unfold sizeS at h
  cases hq : P.info? t with
  | none => simp [hq] at h
  | some i =>
    simp only [hq, Option.map_some, Option.some.injEq] at h
    subst h
    simp [sizeOf, typeInfo, hq]
theorem isAgg_run {t : TypeId} {b : Bool} (h : aggS P t = some b) (w : World) : (isAgg t).run P w = .ok b w := by
  unfold aggS at h
  cases hq : P.underlying t with
  | none => simp [hq] at h
  | some d =>
    simp only [hq, Option.map_some, Option.some.injEq] at h
    unfold isAgg
    rw [Sem.run_bind, run_underlying hq w]
    subst h
    cases d <;> simp [aggD]
theorem addr_add (g o n : Nat) : (⟨g, o, none⟩ : Addr).add n = ⟨g, o + n, none⟩ := by unfold Addr.add; split <;> simp_all
theorem run_load_agg {ty t : TypeId} {g off n : Nat} {fr : Nat × Nat} {l : List Value} (hg : w.heap[g]? = some (.cells l.toArray t fr)) (ha : aggS P ty = some true) (hs : sizeS P ty = some n) (hl : off + n ≤ l.length) :
    (loadVar ty ⟨g, off, none⟩).run P w = .ok (.agg ((l.drop off).take n).toArray) w := by
  have hlen : ((l.drop off).take n).length = n := by simp; omega
  have := run_loadCells_list (P := P) w ⟨g, off, none⟩ ((l.drop off).take n) (fun j v hv => by
    rw [addr_add, cell_of_row w g (off + j) l.toArray t fr hg]
    rw [List.getElem?_take] at hv
    split at hv
    · rw [List.getElem?_drop] at hv; simpa using hv
    · cases hv)
  rw [hlen] at this
  simp [loadVar, isAgg_run ha, sizeS_run hs, this]
theorem run_load_one {ty t : TypeId} {g off : Nat} {fr : Nat × Nat} {l : List Value} {v : Value} (hg : w.heap[g]? = some (.cells l.toArray t fr)) (ha : aggS P ty = some false) (hv : l[off]? = some v) :
    (loadVar ty ⟨g, off, none⟩).run P w = .ok v w := by
  have hc : w.cell? ⟨g, off, none⟩ = some v := by rw [cell_of_row w g off l.toArray t fr hg]; simpa using hv
  simp [loadVar, isAgg_run ha, load, Sem.run, hc]
theorem rdB_ok {b : Nat} {B : Blk} {st' : Store} {r wl : List Loc} (h : rdB b st = .ok B st' r wl) : st.get b = some B ∧ st' = st := by
  unfold rdB at h
  cases hB : st.get b with
  | none => simp only [hB] at h; cases h
  | some C => simp only [hB] at h; cases h; exact ⟨rfl, rfl⟩
theorem wrB_ok {b : Nat} {B : Blk} {st' : Store} {r wl : List Loc} {u : Unit} (h : wrB b B st = .ok u st' r wl) : st' = st.set b B := by
  unfold wrB at h
  cases hB : st.get b with
  | none => simp only [hB] at h; cases h
  | some C => simp only [hB] at h; cases h; rfl
theorem loadS_same {t : TypeId} {b off : Nat} {v : SV} {st' : Store} {r wl : List Loc} (h : loadS P t b off st = .ok v st' r wl) : st' = st := by
  unfold loadS at h
  obtain ⟨B, s1, _, _, _, _, h1, h2, _, _⟩ := M.bind_ok h
  obtain ⟨_, rfl⟩ := rdB_ok h1
  by_cases hh : headIs B.cells = true
  · rw [if_pos hh] at h2; cases h2
  rw [if_neg hh] at h2
  cases ha : aggS P t with
  | none => simp only [ha] at h2; cases h2
  | some x =>
    cases x with
    | true =>
      simp only [ha] at h2
      cases hs : sizeS P t with
      | none => simp only [hs] at h2; cases h2
      | some n =>
        simp only [hs] at h2
        split at h2
        · obtain ⟨_, rfl, _, _⟩ := M.pure_ok h2; rfl
        · cases h2
    | false =>
      simp only [ha] at h2
      cases hc : B.cells[off]? with
      | none => simp only [hc] at h2; cases h2
      | some u =>
        simp only [hc] at h2
        obtain ⟨_, rfl, _, _⟩ := M.pure_ok h2; rfl
theorem loadS_ok {t : TypeId} {b off : Nat} {v : SV} {st' : Store} {r wl : List Loc} (h : loadS P t b off st = .ok v st' r wl) (hr : RelS P ρ E w0 φ st w) :
    st' = st ∧ (loadVar t ⟨φ b, off, none⟩).run P w = .ok (v.den ρ φ) w := by
  unfold loadS at h
  obtain ⟨B, s1, _, _, _, _, h1, h2, _, _⟩ := M.bind_ok h
  obtain ⟨hB, rfl⟩ := rdB_ok h1
  by_cases hh : headIs B.cells = true
  · rw [if_pos hh] at h2; cases h2
  rw [if_neg hh] at h2
  have hrow : headIs B.cells = false := by simpa using hh
  obtain ⟨rest, fr, hg, hlen, _⟩ := hr.row hB hrow
  have hlB : (SV.denL ρ φ B.cells).length = B.cells.length := by rw [denL_map]; simp
  cases ha : aggS P t with
  | none => simp only [ha] at h2; cases h2
  | some x =>
    cases x with
    | true =>
      simp only [ha] at h2
      cases hs : sizeS P t with
      | none => simp only [hs] at h2; cases h2
      | some n =>
        simp only [hs] at h2
        split at h2
        · rename_i hle
          obtain ⟨rfl, rfl, _, _⟩ := M.pure_ok h2
          refine ⟨rfl, ?_⟩
          have hle := Nat.le_of_ble_eq_true hle
          rw [run_load_agg hg ha hs (by simp; omega)]
          have e : ((SV.denL ρ φ B.cells ++ rest).drop off).take n = ((SV.denL ρ φ B.cells).drop off).take n := by
            rw [List.drop_append_of_le_length (by omega), List.take_append_of_le_length (by simp; omega)]
          rw [e]
          simp [SV.den, denL_map, List.map_take, List.map_drop]
        · cases h2
    | false =>
      simp only [ha] at h2
      cases hc : B.cells[off]? with
      | none => simp only [hc] at h2; cases h2
      | some u =>
        simp only [hc] at h2
        obtain ⟨rfl, rfl, _, _⟩ := M.pure_ok h2
        have hlt := (List.getElem?_eq_some_iff.1 hc).1
        exact ⟨rfl, run_load_one hg ha (by rw [List.getElem?_append_left (by omega), denL_map]; simp [hc])⟩
theorem cellsX_den (f : Nat) (e : IE) : ∀ (ks : List EK) (c : Nat), (∀ j k, ks[j]? = some k → (SV.denL ρ φ (cellsX (f + c) e ks))[j]? = some ((cellX (f + (c + j)) e k).den ρ id)) ∧ (SV.denL ρ φ (cellsX (f + c) e ks)).length = ks.length
  | [], c => ⟨fun j k h => by simp at h, rfl⟩
  | k :: ks, c => by
    obtain ⟨h1, h2⟩ := cellsX_den f e ks (c + 1)
    refine ⟨fun j k' h => ?_, by simp only [cellsX, SV.denL, List.length_cons]; rw [show f + c + 1 = f + (c + 1) by omega, h2]⟩
    cases j with
    | zero =>
      simp only [List.getElem?_cons_zero, Option.some.injEq] at h
      subst h
      simp only [cellsX, SV.denL, List.getElem?_cons_zero]
      cases k <;> simp only [cellX, SV.den, Nat.add_zero]
    | succ j =>
      simp only [cellsX, SV.denL, List.getElem?_cons_succ]
      rw [show f + c + 1 = f + (c + 1) by omega, show c + (j + 1) = c + 1 + j by omega]
      exact h1 j k' (by simpa using h)
theorem xcell {B : Ext} {w : World} (hg : w.heap[B.blk]? = some (.cells B.c B.ty B.fr)) (o : Nat) : w.cell? ⟨B.blk, o, none⟩ = B.c[o]? := by
  simp [World.cell?, hg]
theorem loadX_ok {X : Ctx} (hX : Knows ρ X) {t : TypeId} {j c : Nat} {e : IE} {v : SV} {st' : Store} {r wl : List Loc} (h : loadX P X t j e c st = .ok v st' r wl) (hr : RelS P ρ E w0 φ st w) :
    st' = st ∧ ∃ a, (SV.xp j e c).den ρ φ = .pointer (some a) ∧ (loadVar t a).run P w = .ok (v.den ρ φ) w := by
  unfold loadX at h
  cases hd : X.xs[j]? with
  | none => simp only [hd] at h; cases h
  | some d =>
    simp only [hd] at h
    obtain ⟨_, s1, _, _, _, _, h1, h2, _, _⟩ := M.bind_ok h
    obtain ⟨rfl, B, hB, x1, x2, x3, x4, x5, x6⟩ := inX_ok hX hd h1
    have hg := hr.xt j B (Env.y_of hB x6)
    have hden : (SV.xp j e c).den ρ φ = .pointer (some ⟨B.blk, B.off + ((e.den ρ).toNat * B.sz + c), none⟩) := by simp only [SV.den, hB, xpV]
    cases ha : aggS P t with
    | none => simp only [ha] at h2; cases h2
    | some x =>
      cases x with
      | true =>
        simp only [ha] at h2
        cases hs : sizeS P t with
        | none => simp only [hs] at h2; cases h2
        | some n =>
          simp only [hs] at h2
          split at h2
          · rename_i hle
            obtain ⟨rfl, rfl, _, _⟩ := M.pure_ok h2
            refine ⟨rfl, _, hden, ?_⟩
            have hle := Nat.le_of_ble_eq_true hle
            obtain ⟨k1, k2⟩ := cellsX_den (ρ := ρ) (φ := φ) d.f e ((d.ks.drop c).take n) c
            have hlen : (SV.denL ρ φ (cellsX (d.f + c) e ((d.ks.drop c).take n))).length = n := by rw [k2]; simp; omega
            have := run_loadCells_list (P := P) w ⟨B.blk, B.off + ((e.den ρ).toNat * B.sz + c), none⟩ (SV.denL ρ φ (cellsX (d.f + c) e ((d.ks.drop c).take n))) (fun i v hv => by
              have hi : i < n := by
                have := (List.getElem?_eq_some_iff.1 hv).1
                omega
              have hks : ((d.ks.drop c).take n)[i]? = d.ks[c + i]? := by
                rw [List.getElem?_take, if_pos hi, List.getElem?_drop]
              cases hk : d.ks[c + i]? with
              | none => exact absurd (List.getElem?_eq_none_iff.1 hk) (by omega)
              | some k =>
                rw [k1 i k (by rw [hks]; exact hk)] at hv
                rw [addr_add, xcell hg, ← hv, show B.off + ((e.den ρ).toNat * B.sz + c) + i = B.off + ((e.den ρ).toNat * B.sz + (c + i)) by omega]
                exact x5 (c + i) k hk)
            rw [hlen] at this
            simp [loadVar, isAgg_run ha, sizeS_run hs, this, SV.den]
          · cases h2
      | false =>
        simp only [ha] at h2
        cases hk : d.ks[c]? with
        | none => simp only [hk] at h2; cases h2
        | some k =>
          simp only [hk] at h2
          obtain ⟨rfl, rfl, _, _⟩ := M.pure_ok h2
          refine ⟨rfl, _, hden, ?_⟩
          have hc : w.cell? ⟨B.blk, B.off + ((e.den ρ).toNat * B.sz + c), none⟩ = some ((cellX (d.f + c) e k).den ρ id) := by rw [xcell hg]; exact x5 c k hk
          have hdn : (cellX (d.f + c) e k).den ρ φ = (cellX (d.f + c) e k).den ρ id := by cases k <;> rfl
          rw [hdn]
          simp [loadVar, isAgg_run ha, load, Sem.run, hc]
theorem headIs_parts {v : SV} {cs : List SV} (h : v.parts = some cs) : headIs cs = false := by
  have key : ∀ u : SV, u.one = true → ∀ l, headIs (u :: l) = false := fun u hu l => by cases u <;> first | rfl | (simp [SV.one] at hu)
  unfold SV.parts at h
  split at h
  · rename_i l
    split at h
    · rename_i ha
      cases h
      cases cs with
      | nil => rfl
      | cons u l => exact key u (List.all_eq_true.1 ha u (by simp)) l
    · cases h
  · split at h
    · rename_i ho; cases h; exact key _ ho _
    · cases h
/-- cells laid into a row: what is known of it, and what is not -/
theorem lay_list {xs ys rest : List Value} {off n : Nat} (hn : ys.length = n) (hl : off + n ≤ xs.length) :
    (xs ++ rest).take off ++ ys ++ (xs ++ rest).drop (off + n) = (xs.take off ++ ys ++ xs.drop (off + n)) ++ rest := by
  rw [List.take_append_of_le_length (by omega), List.drop_append_of_le_length (by omega)]
  simp
theorem wrR_ok {b : Nat} {B : Blk} {cs : List SV} {st' : Store} {r wl : List Loc} {u : Unit} (h : wrR b B cs st = .ok u st' r wl) : headIs cs = false ∧ cs.length = B.cells.length ∧ st' = st.set b { B with cells := cs } := by
  unfold wrR at h
  split at h
  · cases h
  · rename_i hc
    simp only [Bool.or_eq_true, Bool.not_eq_true', not_or, Bool.not_eq_true, Bool.not_eq_false, Nat.beq_eq] at hc
    exact ⟨hc.1, hc.2, wrB_ok h⟩
theorem storeS_ok {t : TypeId} {b off : Nat} {v x : SV} {st' : Store} {r wl : List Loc} (h : storeS P t b off v st = .ok x st' r wl) (hr : RelS P ρ E w0 φ st w) (hcl : ∀ cs, v.parts = some cs → ∀ c ∈ SV.idsL cs, (st.get c).isSome) :
    x = .raw undef ∧ ∃ w', Step P ρ E w0 φ st φ st' w' ∧ (storeVar t ⟨φ b, off, none⟩ (v.den ρ φ)).run P w = .ok () w' := by
  unfold storeS at h
  cases hp : v.parts with
  | none => simp only [hp] at h; cases h
  | some cs =>
    cases hs : sizeS P t with
    | none => simp only [hp, hs] at h; cases h
    | some n =>
      simp only [hp, hs] at h
      split at h
      · rename_i he
        simp only [Bool.and_eq_true, Nat.beq_eq, List.isEmpty_iff] at he
        obtain ⟨rfl, rfl⟩ := he
        obtain ⟨rfl, rfl, _, _⟩ := M.pure_ok h
        obtain ⟨hcells, hone⟩ := parts_den (ρ := ρ) (φ := φ) hp
        refine ⟨rfl, w, Step.refl hr, ?_⟩
        simp only [storeVar, Sem.run_bind, sizeS_run hs, Result.andThen_ok, hcells, SV.denL, List.size_toArray, List.length_nil, ne_eq, not_true_eq_false, if_false, List.toList_toArray]
        rfl
      obtain ⟨B, s1, _, _, _, _, h1, h2, _, _⟩ := M.bind_ok h
      obtain ⟨hB, rfl⟩ := rdB_ok h1
      split at h2
      · rename_i hle
        simp only [Bool.and_eq_true, Nat.beq_eq, Bool.not_eq_true', List.isEmpty_eq_false_iff] at hle
        obtain ⟨⟨⟨hrow, hle1⟩, hle2⟩, hne⟩ := hle
        have hle2 := Nat.le_of_ble_eq_true hle2
        obtain ⟨_, s2, _, _, _, _, h3, h4, _, _⟩ := M.bind_ok h2
        obtain ⟨hrow', hlen', rfl⟩ := wrR_ok h3
        obtain ⟨rfl, rfl, _, _⟩ := M.pure_ok h4
        obtain ⟨hcells, hone⟩ := parts_den (ρ := ρ) (φ := φ) hp
        obtain ⟨rest, fr, hg, htot, hclear⟩ := hr.row hB hrow
        have hlen : (SV.denL ρ φ cs).length = n := by rw [denL_map]; simpa using hle1
        have hlB : (SV.denL ρ φ B.cells).length = B.cells.length := by rw [denL_map]; simp
        have hden : SV.denL ρ φ (B.cells.take off ++ cs ++ B.cells.drop (off + n)) = (SV.denL ρ φ B.cells).take off ++ SV.denL ρ φ cs ++ (SV.denL ρ φ B.cells).drop (off + n) := by
          simp [denL_map, List.map_take, List.map_drop]
        refine ⟨rfl, _, hr.putR b B (B.cells.take off ++ cs ++ B.cells.drop (off + n)) rest hB hne hrow hrow' (fun c hc => ?_) ?_, ?_⟩
        · rw [mem_idsL] at hc
          obtain ⟨y, hy, hcy⟩ := hc
          simp only [List.mem_append] at hy
          rcases hy with (hy | hy) | hy
          · exact hr.cl b B hB c (mem_idsL.2 ⟨y, List.mem_of_mem_take hy, hcy⟩)
          · exact hcl cs hp c (mem_idsL.2 ⟨y, hy, hcy⟩)
          · exact hr.cl b B hB c (mem_idsL.2 ⟨y, List.mem_of_mem_drop hy, hcy⟩)
        · rw [← htot, List.length_append, List.length_append, denL_map, denL_map, List.length_map, List.length_map, hlen']
        · have := run_storeCells_clear P (φ b) off B.ty fr (SV.denL ρ φ cs) 0 _ w hg (by simpa [htot] using hclear) (by simp [hlen, hlB]; omega) hone
          simp only [Nat.add_zero, hlen] at this
          simp only [storeVar, Sem.run_bind, sizeS_run hs, Result.andThen_ok, hcells, List.size_toArray, hlen, ne_eq, not_true_eq_false, if_false, List.toList_toArray]
          rw [this]
          have e := lay_list (xs := SV.denL ρ φ B.cells) (rest := rest) hlen (by omega : off + n ≤ _)
          rw [e, hden]
      · cases h2
end Ev
end Go.Proofs.Ythhipnhnpjhaaaa
