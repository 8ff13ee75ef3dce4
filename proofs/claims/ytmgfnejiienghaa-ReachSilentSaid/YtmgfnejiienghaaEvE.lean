/- A checked evaluator: what it says of an operation is what the model does. -/
import Derived.Test.YtmgfnejiienghaaEvD
namespace Go.Proofs.Ytmgfnejiienghaa
open Go Go.RowKit
set_option linter.unusedVariables false
namespace Ev
variable {P : Program} {ρ : Env} {E : List (Nat × Nat)} {w0 : World} {φ : Nat → Nat} {st : Store} {w : World}

/-- a call that is worked out: what it says is what the callee does -/
def CallOk (P : Program) (ρ : Env) (E : List (Nat × Nat)) (call : FuncId → List SV → Nat → M Store SV) : Prop :=
  ∀ f vs id st v st' r wl, call f vs id st = .ok v st' r wl → ∀ w0 φ w, RelS ρ E w0 φ st w →
    (∀ args w', (callFunc f args).run P w' = .ok (.enter f args) w') ∧
    Calls P f (SV.denL ρ φ vs).toArray w fun e w' => ∃ φ', Step ρ E w0 φ st φ' st' w' ∧ e = .returned (v.den ρ φ')

theorem wp_value {o : Oper} {a : Act} {next : Act → World → Prop} {Q : Exit → Act → World → Prop} {x : Value} {w' : World} (h : (execOp a.eval o).run P w = .ok (.value x) w') (hn : next (a.put o.dst x) w') : o.wp P a w next Q := by
  unfold Oper.wp; rw [h]; exact hn
theorem wp_skip' {o : Oper} {a : Act} {next : Act → World → Prop} {Q : Exit → Act → World → Prop} {w' : World} (h : (execOp a.eval o).run P w = .ok .skip w') (hn : next (a.put o.dst undef) w') : o.wp P a w next Q := by
  unfold Oper.wp; rw [h]; exact hn
theorem wp_enter' {o : Oper} {a : Act} {next : Act → World → Prop} {Q : Exit → Act → World → Prop} {f : FuncId} {args : Array Value} {x : World → Value} {R : World → World → Prop} (h : (execOp a.eval o).run P w = .ok (.enter f args) w)
    (hc : Calls P f args w fun e w' => ∃ v, e = .returned v ∧ next (a.put o.dst v) w') : o.wp P a w next Q := by
  unfold Oper.wp; rw [h]
  exact hc.mono fun e w' ⟨v, he, hn⟩ => by subst he; exact hn

theorem sizeS_run {t : TypeId} {n : Nat} (h : sizeS P t = some n) (w : World) : (sizeOf t).run P w = .ok n w := by
  unfold sizeS at h
  cases hq : P.info? t with
  | none => simp [hq] at h
  | some i =>
    simp only [hq, Option.map_some, Option.some.injEq] at h
    subst h
    simp [sizeOf, typeInfo, hq]
theorem isAgg_run {t : TypeId} {b : Bool} (h : aggS P t = some b) (w : World) : (isAgg t).run P w = .ok b w := by
  unfold aggS at h
  cases hq : P.underlying t with
  | none => simp [hq] at h
  | some d =>
    simp only [hq, Option.map_some, Option.some.injEq] at h
    unfold isAgg
    rw [Sem.run_bind, run_underlying hq w]
    subst h
    cases d <;> simp [aggD]
theorem addr_add (g o n : Nat) : (⟨g, o, none⟩ : Addr).add n = ⟨g, o + n, none⟩ := by unfold Addr.add; split <;> simp_all
theorem run_load_agg {ty t : TypeId} {g off n : Nat} {l : List Value} (hg : w.heap[g]? = some (.cells l.toArray t (0, 0))) (ha : aggS P ty = some true) (hs : sizeS P ty = some n) (hl : off + n ≤ l.length) :
    (loadVar ty ⟨g, off, none⟩).run P w = .ok (.agg ((l.drop off).take n).toArray) w := by
  have hlen : ((l.drop off).take n).length = n := by simp; omega
  have := run_loadCells_list (P := P) w ⟨g, off, none⟩ ((l.drop off).take n) (fun j v hv => by
    rw [addr_add, cell_of_row w g (off + j) l.toArray t (0, 0) hg]
    rw [List.getElem?_take] at hv
    split at hv
    · rw [List.getElem?_drop] at hv; simpa using hv
    · cases hv)
  rw [hlen] at this
  simp [loadVar, isAgg_run ha, sizeS_run hs, this]
theorem run_load_one {ty t : TypeId} {g off : Nat} {l : List Value} {v : Value} (hg : w.heap[g]? = some (.cells l.toArray t (0, 0))) (ha : aggS P ty = some false) (hv : l[off]? = some v) :
    (loadVar ty ⟨g, off, none⟩).run P w = .ok v w := by
  have hc : w.cell? ⟨g, off, none⟩ = some v := by rw [cell_of_row w g off l.toArray t (0, 0) hg]; simpa using hv
  simp [loadVar, isAgg_run ha, load, Sem.run, hc]
theorem loadS_same {t : TypeId} {b off : Nat} {v : SV} {st' : Store} {r wl : List Loc} (h : loadS P t b off st = .ok v st' r wl) : st' = st := by
  unfold loadS at h
  obtain ⟨B, s1, _, _, _, _, h1, h2, _, _⟩ := M.bind_ok h
  unfold rdB at h1
  cases hB : st.get b with
  | none => simp only [hB] at h1; cases h1
  | some C =>
    simp only [hB] at h1
    cases h1
    cases ha : aggS P t with
    | none => simp only [ha] at h2; cases h2
    | some x =>
      cases x with
      | true =>
        simp only [ha] at h2
        cases hs : sizeS P t with
        | none => simp only [hs] at h2; cases h2
        | some n =>
          simp only [hs] at h2
          split at h2
          · obtain ⟨_, rfl, _, _⟩ := M.pure_ok h2; rfl
          · cases h2
      | false =>
        simp only [ha] at h2
        cases hc : B.cells[off]? with
        | none => simp only [hc] at h2; cases h2
        | some u =>
          simp only [hc] at h2
          obtain ⟨_, rfl, _, _⟩ := M.pure_ok h2; rfl
theorem loadS_ok {t : TypeId} {b off : Nat} {v : SV} {st' : Store} {r wl : List Loc} (h : loadS P t b off st = .ok v st' r wl) (hr : RelS ρ E w0 φ st w) :
    st' = st ∧ (loadVar t ⟨φ b, off, none⟩).run P w = .ok (v.den ρ φ) w := by
  unfold loadS at h
  obtain ⟨B, s1, _, _, _, _, h1, h2, _, _⟩ := M.bind_ok h
  unfold rdB at h1
  cases hB : st.get b with
  | none => simp only [hB] at h1; cases h1
  | some C =>
    simp only [hB] at h1
    cases h1
    have hg := hr.bl b B hB
    cases ha : aggS P t with
    | none => simp only [ha] at h2; cases h2
    | some x =>
      cases x with
      | true =>
        simp only [ha] at h2
        cases hs : sizeS P t with
        | none => simp only [hs] at h2; cases h2
        | some n =>
          simp only [hs] at h2
          split at h2
          · rename_i hle
            obtain ⟨rfl, rfl, _, _⟩ := M.pure_ok h2
            refine ⟨rfl, ?_⟩
            have hle : off + n ≤ (SV.denL ρ φ B.cells).length := by rw [denL_map]; simpa using Nat.le_of_ble_eq_true hle
            rw [run_load_agg hg ha hs hle]
            simp [SV.den, denL_map, List.map_take, List.map_drop]
          · cases h2
      | false =>
        simp only [ha] at h2
        cases hc : B.cells[off]? with
        | none => simp only [hc] at h2; cases h2
        | some u =>
          simp only [hc] at h2
          obtain ⟨rfl, rfl, _, _⟩ := M.pure_ok h2
          exact ⟨rfl, run_load_one hg ha (by rw [denL_map]; simp [hc])⟩
theorem cellsX_den (f : Nat) (e : IE) : ∀ (ks : List EK) (c : Nat), (∀ j k, ks[j]? = some k → (SV.denL ρ φ (cellsX (f + c) e ks))[j]? = some ((cellX (f + (c + j)) e k).den ρ id)) ∧ (SV.denL ρ φ (cellsX (f + c) e ks)).length = ks.length
  | [], c => ⟨fun j k h => by simp at h, rfl⟩
  | k :: ks, c => by
    obtain ⟨h1, h2⟩ := cellsX_den f e ks (c + 1)
    refine ⟨fun j k' h => ?_, by simp only [cellsX, SV.denL, List.length_cons]; rw [show f + c + 1 = f + (c + 1) by omega, h2]⟩
    cases j with
    | zero =>
      simp only [List.getElem?_cons_zero, Option.some.injEq] at h
      subst h
      simp only [cellsX, SV.denL, List.getElem?_cons_zero]
      cases k <;> simp only [cellX, SV.den, Nat.add_zero]
    | succ j =>
      simp only [cellsX, SV.denL, List.getElem?_cons_succ]
      rw [show f + c + 1 = f + (c + 1) by omega, show c + (j + 1) = c + 1 + j by omega]
      exact h1 j k' (by simpa using h)
theorem xcell {B : Ext} {w : World} (hg : w.heap[B.blk]? = some (.cells B.c B.ty B.fr)) (o : Nat) : w.cell? ⟨B.blk, o, none⟩ = B.c[o]? := by
  simp [World.cell?, hg]
theorem loadX_ok {X : Ctx} (hX : Knows ρ X) {t : TypeId} {j c : Nat} {e : IE} {v : SV} {st' : Store} {r wl : List Loc} (h : loadX P X t j e c st = .ok v st' r wl) (hr : RelS ρ E w0 φ st w) :
    st' = st ∧ ∃ a, (SV.xp j e c).den ρ φ = .pointer (some a) ∧ (loadVar t a).run P w = .ok (v.den ρ φ) w := by
  unfold loadX at h
  cases hd : X.xs[j]? with
  | none => simp only [hd] at h; cases h
  | some d =>
    simp only [hd] at h
    obtain ⟨_, s1, _, _, _, _, h1, h2, _, _⟩ := M.bind_ok h
    obtain ⟨rfl, B, hB, x1, x2, x3, x4, x5⟩ := inX_ok hX hd h1
    have hg := hr.xt j B hB
    have hden : (SV.xp j e c).den ρ φ = .pointer (some ⟨B.blk, B.off + ((e.den ρ).toNat * B.sz + c), none⟩) := by simp only [SV.den, hB, xpV]
    cases ha : aggS P t with
    | none => simp only [ha] at h2; cases h2
    | some x =>
      cases x with
      | true =>
        simp only [ha] at h2
        cases hs : sizeS P t with
        | none => simp only [hs] at h2; cases h2
        | some n =>
          simp only [hs] at h2
          split at h2
          · rename_i hle
            obtain ⟨rfl, rfl, _, _⟩ := M.pure_ok h2
            refine ⟨rfl, _, hden, ?_⟩
            have hle := Nat.le_of_ble_eq_true hle
            obtain ⟨k1, k2⟩ := cellsX_den (ρ := ρ) (φ := φ) d.f e ((d.ks.drop c).take n) c
            have hlen : (SV.denL ρ φ (cellsX (d.f + c) e ((d.ks.drop c).take n))).length = n := by rw [k2]; simp; omega
            have := run_loadCells_list (P := P) w ⟨B.blk, B.off + ((e.den ρ).toNat * B.sz + c), none⟩ (SV.denL ρ φ (cellsX (d.f + c) e ((d.ks.drop c).take n))) (fun i v hv => by
              have hi : i < n := by
                have := (List.getElem?_eq_some_iff.1 hv).1
                omega
              have hks : ((d.ks.drop c).take n)[i]? = d.ks[c + i]? := by
                rw [List.getElem?_take, if_pos hi, List.getElem?_drop]
              cases hk : d.ks[c + i]? with
              | none => exact absurd (List.getElem?_eq_none_iff.1 hk) (by omega)
              | some k =>
                rw [k1 i k (by rw [hks]; exact hk)] at hv
                rw [addr_add, xcell hg, ← hv, show B.off + ((e.den ρ).toNat * B.sz + c) + i = B.off + ((e.den ρ).toNat * B.sz + (c + i)) by omega]
                exact x5 (c + i) k hk)
            rw [hlen] at this
            simp [loadVar, isAgg_run ha, sizeS_run hs, this, SV.den]
          · cases h2
      | false =>
        simp only [ha] at h2
        cases hk : d.ks[c]? with
        | none => simp only [hk] at h2; cases h2
        | some k =>
          simp only [hk] at h2
          obtain ⟨rfl, rfl, _, _⟩ := M.pure_ok h2
          refine ⟨rfl, _, hden, ?_⟩
          have hc : w.cell? ⟨B.blk, B.off + ((e.den ρ).toNat * B.sz + c), none⟩ = some ((cellX (d.f + c) e k).den ρ id) := by rw [xcell hg]; exact x5 c k hk
          have hdn : (cellX (d.f + c) e k).den ρ φ = (cellX (d.f + c) e k).den ρ id := by cases k <;> rfl
          rw [hdn]
          simp [loadVar, isAgg_run ha, load, Sem.run, hc]
theorem storeS_ok {t : TypeId} {b off : Nat} {v x : SV} {st' : Store} {r wl : List Loc} (h : storeS P t b off v st = .ok x st' r wl) (hr : RelS ρ E w0 φ st w) (hcl : ∀ cs, v.parts = some cs → ∀ c ∈ SV.idsL cs, (st.get c).isSome) :
    x = .raw undef ∧ ∃ w', Step ρ E w0 φ st φ st' w' ∧ (storeVar t ⟨φ b, off, none⟩ (v.den ρ φ)).run P w = .ok () w' := by
  unfold storeS at h
  cases hp : v.parts with
  | none => simp only [hp] at h; cases h
  | some cs =>
    cases hs : sizeS P t with
    | none => simp only [hp, hs] at h; cases h
    | some n =>
      simp only [hp, hs] at h
      obtain ⟨B, s1, _, _, _, _, h1, h2, _, _⟩ := M.bind_ok h
      unfold rdB at h1
      cases hB : st.get b with
      | none => simp only [hB] at h1; cases h1
      | some C =>
        simp only [hB] at h1
        cases h1
        split at h2
        · rename_i hle
          simp only [Bool.and_eq_true, Nat.beq_eq] at hle
          obtain ⟨hle1, hle2⟩ := hle
          have hle2 := Nat.le_of_ble_eq_true hle2
          obtain ⟨_, s2, _, _, _, _, h3, h4, _, _⟩ := M.bind_ok h2
          unfold wrB at h3
          simp only [hB] at h3
          cases h3
          obtain ⟨rfl, rfl, _, _⟩ := M.pure_ok h4
          obtain ⟨hcells, hone⟩ := parts_den (ρ := ρ) (φ := φ) hp
          have hg := hr.bl b B hB
          have hlen : (SV.denL ρ φ cs).length = n := by rw [denL_map]; simpa using hle1
          have hlB : (SV.denL ρ φ B.cells).length = B.cells.length := by rw [denL_map]; simp
          refine ⟨rfl, _, hr.put b B (B.cells.take off ++ cs ++ B.cells.drop (off + n)) hB (fun c hc => ?_), ?_⟩
          · rw [mem_idsL] at hc
            obtain ⟨y, hy, hcy⟩ := hc
            simp only [List.mem_append] at hy
            rcases hy with (hy | hy) | hy
            · exact hr.cl b B hB c (mem_idsL.2 ⟨y, List.mem_of_mem_take hy, hcy⟩)
            · exact hcl cs hp c (mem_idsL.2 ⟨y, hy, hcy⟩)
            · exact hr.cl b B hB c (mem_idsL.2 ⟨y, List.mem_of_mem_drop hy, hcy⟩)
          · have := run_storeCells_at P (φ b) off B.ty (SV.denL ρ φ cs) 0 _ w hg (by simp [hlen, hlB]; omega) hone
            simp only [Nat.add_zero, hlen] at this
            simp only [storeVar, Sem.run_bind, sizeS_run hs, Result.andThen_ok, hcells, List.size_toArray, hlen, ne_eq, not_true_eq_false, if_false, List.toList_toArray]
            simpa [denL_map, List.map_take, List.map_drop] using this
        · cases h2
end Ev
end Go.Proofs.Ytmgfnejiienghaa
