/- A checked evaluator: appends, copies, conversions, maps, types asserted: what they say is what the model does. -/
import Derived.Test.YtmgfnejiienghaaM21
import Derived.MapKept
namespace Go.Proofs.Ytmgfnejiienghaa
open Go Go.RowKit
set_option linter.unusedVariables false
namespace Ev
variable {P : Program} {ρ : Env} {E : List (Nat × Nat)} {w0 : World} {φ : Nat → Nat} {st : Store} {w : World}

theorem CellsOk.all {n k : Nat} {x : SV} {cs : List SV} (h : CellsOk P ρ φ st w n x k cs) {w1 : World} (hw : w1.heap = w.heap) : (Builtin.firstCells n k (x.den ρ φ)).run P w1 = .ok (SV.denL ρ φ cs).toArray w1 := by
  have := h.first k (Nat.le_refl _) w1 hw
  rwa [List.take_of_length_le (by rw [h.len]; exact Nat.le_refl _)] at this
/-- in place, where nobody knows how much room there is: the old name says nothing any more, a new one says all -/
theorem RelS.rename (hr : RelS P ρ E w0 φ st w) {b id : Nat} {B : Blk} {cs : List SV} (hB : st.get b = some B) (hrow : headIs B.cells = false) (hne : B.cells ≠ []) (hid : (st.set b { B with cells := [] }).get id = none) (hz : id % 1048576 ≠ 0)
    (hcl : ∀ c ∈ SV.idsL cs, (st.get c).isSome) (hrow' : headIs cs = false) {rest : List Value} (hlen : (SV.denL ρ φ cs ++ rest).length = φ (capK b)) :
    Step P ρ E w0 φ st (named φ id (φ b) (φ (capK b))) ((id, ⟨B.ty, cs⟩) :: st.set b { B with cells := [] }) (w.setRow (φ b) (SV.denL ρ φ cs ++ rest).toArray) := by
  have hs : (st.get b).isSome := by rw [hB]; rfl
  have h1 := hr.putR b B [] (SV.denL ρ φ cs ++ rest) hB hne hrow rfl (by simp [SV.idsL]) (by simpa [SV.denL] using hlen)
  simp only [SV.denL, List.nil_append] at h1
  obtain ⟨rest0, fr, hg, _, hclear⟩ := hr.row hB hrow
  have hg' := setRow_heap w (φ b) _ (SV.denL ρ φ cs ++ rest).toArray B.ty fr hg
  have hdom : ∀ c, ((st.set b { B with cells := [] }).get c).isSome = (st.get c).isSome := fun c => by
    rw [Store.get_set st b c _ hs]; split
    · rename_i e; subst e; rw [hB]; rfl
    · rfl
  refine h1.trans (h1.rel.more id (φ b) (φ (capK b)) ⟨B.ty, cs⟩ (.cells (SV.denL ρ φ cs ++ rest).toArray B.ty fr) hid hz (fun c hc => .inl (by rw [hdom]; exact hcl c hc)) hg' ?_ (hr.own b hs) (fun c C hc hC e => ?_) (fun j D hD => hr.xd j D hD b hs))
  · unfold objOk
    rw [bcOf_row hrow']
    have hd := named_denL (ρ := ρ) (φ := φ) (st := st.set b { B with cells := [] }) (g := φ b) (cap := φ (capK b)) hz hid h1.rel.nz (l := cs) (fun c hc => by rw [hdom]; exact hcl c hc)
    exact ⟨rest, fr, by rw [hd], by rw [hd, named_cap hz]; exact hlen, by rw [named_cap hz]; exact hclear⟩
  · rw [Store.get_set st b c _ hs] at hc
    split at hc
    · cases hc; exact hC rfl
    · rename_i hn
      exact hn (hr.inj c b C B hc hB hC hne e).symm
theorem appendTo_ok {id : Nat} {elem : TypeId} {n k : Nat} {new : List SV} {s x v : SV} {st' : Store} {r wl : List Loc} (h : appendTo P id elem n k new (abOf s) st = .ok v st' r wl) (hr : RelS P ρ E w0 φ st w) (hn : 1 ≤ n) {i : TypeInfo} {z : Value} (hi : P.info? elem = some i) (hin : i.size = n)
    (hz : i.zero = some z) (hzn : z.cells.size = n) (hx : CellsOk P ρ φ st w n x k new) (hone : new.all SV.one = true) {ts : Array TypeId} {t0 t1 ty : TypeId} {d1 : TypeDesc} (h0 : ts[0]? = some t0) (h1 : ts[1]? = some t1) (ht0 : P.underlying t0 = some (.slice elem)) (ht1 : P.underlying t1 = some d1) (hd : notInt d1 = true) :
    ∃ φ' w', Step P ρ E w0 φ st φ' st' w' ∧ (Builtin.append_ ts ty #[s.den ρ φ, x.den ρ φ]).run P w = .ok (v.den ρ φ') w' := by
  subst hin
  cases hab : abOf s with
  | no => rw [hab] at h; cases h
  | nil =>
    rw [hab] at h
    obtain rfl := abOf_nil hab
    simp only [appendTo] at h
    split at h
    · rename_i hk
      have hk : k = 0 := by simpa using hk
      subst hk
      obtain ⟨rfl, rfl, _, _⟩ := M.pure_ok h
      refine ⟨φ, w, Step.refl hr, ?_⟩
      simp only [SV.den]
      rw [append_room h0 h1 ht0 ht1 hd hi (hx.lenOf w) (hx.all rfl) (Nat.le_refl _)]
      rfl
    · split at h
      · rename_i hs
        obtain ⟨s1, s2⟩ := smallS_ok hi hs
        rename_i hk
        have hk : 0 < k := by rcases Nat.eq_zero_or_pos k with h | h; exact absurd (by simp [h]) hk; exact h
        obtain ⟨φ', hst, hv⟩ := growS_ok h hr hn hzn (cap := grownCap w (0 + k) 0 elem) (le_grownCap _ _ _ _)
        refine ⟨φ', _, hst, ?_⟩
        simp only [SV.den]
        rw [append_grow h0 h1 ht0 ht1 hd hi hz (hx.lenOf w) (hx.all rfl) (old := #[]) (run_firstCells_none _ _ _ _ _) (by omega) (by simpa using s1) (by simpa using s2), ← hv]
        rfl
      · cases h
  | lit b off len cap =>
    rw [hab] at h
    obtain rfl := abOf_lit hab
    simp only [appendTo] at h
    split at h
    · rename_i hle
      have hle := Nat.le_of_ble_eq_true hle
      obtain ⟨B, s1, _, _, _, _, h2, h3, _, _⟩ := M.bind_ok h
      obtain ⟨hB, rfl⟩ := rdB_ok h2
      split at h3
      · rename_i hc
        simp only [Bool.and_eq_true, Bool.not_eq_true', Nat.beq_eq] at hc
        obtain ⟨⟨hrow, hl⟩, hnl⟩ := hc
        have hl := Nat.le_of_ble_eq_true hl
        split at h3
        · rename_i hk
          have hk : k = 0 := by simpa using hk
          subst hk
          obtain ⟨rfl, rfl, _, _⟩ := M.pure_ok h3
          refine ⟨φ, w, Step.refl hr, ?_⟩
          simp only [SV.den]
          rw [append_room h0 h1 ht0 ht1 hd hi (hx.lenOf w) (hx.all rfl) (by omega)]
          have : new = [] := List.length_eq_zero_iff.1 (by rw [hnl]; simp)
          subst this
          simp [SV.denL, storeCells]
        · rename_i hk
          have hk : 0 < k := by rcases Nat.eq_zero_or_pos k with h | h; exact absurd (by simp [h]) hk; exact h
          obtain ⟨_, s2, _, _, _, _, h4, h5, _, _⟩ := M.bind_ok h3
          obtain ⟨rfl, hcl⟩ := chk_ok h4
          obtain ⟨_, s3, _, _, _, _, h6, h7, _, _⟩ := M.bind_ok h5
          obtain ⟨rfl, rfl, _, _⟩ := M.pure_ok h7
          have hpos : 0 < k * i.size := Nat.mul_pos hk hn
          have hadd : (len + k) * i.size = len * i.size + k * i.size := Nat.add_mul _ _ _
          have e : off + (len + k) * i.size = off + len * i.size + new.length := by rw [hnl]; omega
          rw [e] at h6
          obtain ⟨w', hst, hstep⟩ := lay_ok hr hB hrow (fun e => by rw [e] at hl; simp at hl; omega) (by rw [← e]; exact hl) hone hcl h6
          refine ⟨φ, w', hstep, ?_⟩
          simp only [SV.den]
          rw [append_room h0 h1 ht0 ht1 hd hi (hx.lenOf w) (hx.all rfl) hle]
          simp only [addr_add, Sem.run_bind, hst, Result.andThen_ok, Sem.run_pure]
      · cases h3
    · rename_i hle
      have hgt : cap < len + k := by
        have : ¬ (len + k ≤ cap) := fun hh => hle (Nat.ble_eq_true_of_le hh)
        omega
      split at h
      · rename_i hs
        obtain ⟨s1, s2⟩ := smallS_ok hi hs
        obtain ⟨old, s3, _, _, _, _, h2, h3, _, _⟩ := M.bind_ok h
        obtain ⟨rfl, B, hB, hrow, hl, rfl⟩ := rowS_ok h2
        obtain ⟨φ', hst, hv⟩ := growS_ok h3 hr hn hzn (cap := grownCap w (len + k) cap elem) (le_grownCap _ _ _ _)
        refine ⟨φ', _, hst, ?_⟩
        simp only [SV.den]
        have hold := first_row hr hB hrow hl (Nat.le_refl len) (cap := cap) (w1 := w.drew) rfl
        rw [List.take_of_length_le (by simp; omega)] at hold
        rw [append_grow h0 h1 ht0 ht1 hd hi hz (hx.lenOf w) (hx.all rfl) hold hgt s1 s2, ← hv]
      · cases h
  | grow b sz len =>
    rw [hab] at h
    obtain rfl := abOf_grow hab
    simp only [appendTo] at h
    split at h
    · rename_i hc
      simp only [Bool.and_eq_true, Nat.beq_eq] at hc
      obtain ⟨rfl, hs⟩ := hc
      obtain ⟨s1, s2⟩ := smallS_ok hi hs
      obtain ⟨B, s3, _, _, _, _, h2, h3, _, _⟩ := M.bind_ok h
      obtain ⟨hB, rfl⟩ := rdB_ok h2
      split at h3
      · rename_i hc
        simp only [Bool.and_eq_true, Bool.not_eq_true', Nat.beq_eq] at hc
        obtain ⟨⟨hrow, hl⟩, rfl⟩ := hc
        have hl := Nat.le_of_ble_eq_true hl
        obtain ⟨rest, fr, hg, htot, hclear⟩ := hr.row hB hrow
        have hlB : (SV.denL ρ φ B.cells).length = B.cells.length := by rw [denL_map]; simp
        have hcap : len ≤ φ (capK b) / i.size := by
          rw [Nat.le_div_iff_mul_le (by omega), ← htot, List.length_append, hlB]; omega
        split at h3
        · rename_i hk
          have hk : k = 0 := by simpa using hk
          subst hk
          obtain ⟨rfl, rfl, _, _⟩ := M.pure_ok h3
          refine ⟨φ, w, Step.refl hr, ?_⟩
          simp only [SV.den, Nat.zero_mul, Nat.sub_zero]
          rw [append_room h0 h1 ht0 ht1 hd hi (hx.lenOf w) (hx.all rfl) (by omega)]
          have : new = [] := List.length_eq_zero_iff.1 (by rw [hx.len]; simp)
          subst this
          simp [SV.denL, storeCells]
        · rename_i hk
          have hk : 0 < k := by rcases Nat.eq_zero_or_pos k with h | h; exact absurd (by simp [h]) hk; exact h
          split at h3
          · rename_i hl1
            have hl1 := Nat.le_of_ble_eq_true hl1
            obtain ⟨_, s4, _, _, _, _, h4, h5, _, _⟩ := M.bind_ok h3
            obtain rfl := wrB_ok h4
            have hpos : 0 < len * i.size := Nat.mul_pos hl1 hn
            have hne : B.cells ≠ [] := fun e => by rw [e] at hl; simp at hl; omega
            by_cases hroom : len + k ≤ φ (capK b) / i.size
            · -- there is room
              unfold growS at h5
              split at h5
              · rename_i hc
                simp only [Bool.and_eq_true, Nat.beq_eq] at hc
                obtain ⟨_, s5, _, _, _, _, h6, h7, _, _⟩ := M.bind_ok h5
                obtain ⟨hid, hz', hcl, hrow', rfl⟩ := newR_ok h6
                obtain ⟨rfl, rfl, _, _⟩ := M.pure_ok h7
                have hroom2 : (len + k) * i.size ≤ φ (capK b) := by rwa [Nat.le_div_iff_mul_le (by omega)] at hroom
                have hadd : (len + k) * i.size = len * i.size + k * i.size := Nat.add_mul _ _ _
                have hlc : (SV.denL ρ φ new).length = k * i.size := by rw [denL_map, List.length_map, hx.len]
                let row := SV.denL ρ φ B.cells ++ rest
                have hrl : row.length = φ (capK b) := htot
                have htk : row.take (len * i.size) = SV.denL ρ φ (B.cells.take (len * i.size)) := by
                  show (SV.denL ρ φ B.cells ++ rest).take _ = _
                  rw [List.take_append_of_le_length (by omega), denL_map, denL_map, List.map_take]
                have hst := run_storeCells_clear P (φ b) (len * i.size) B.ty fr (SV.denL ρ φ new) 0 _ w hg (by simpa [htot] using hclear) (by simp only [Nat.add_zero, hlc, List.size_toArray]; rw [htot]; omega) (all_one hone)
                simp only [Nat.add_zero, hlc] at hst
                have e1 : row.take (len * i.size) ++ SV.denL ρ φ new ++ row.drop (len * i.size + k * i.size) = SV.denL ρ φ (B.cells.take (len * i.size) ++ new) ++ row.drop (len * i.size + k * i.size) := by
                  rw [htk, denL_append]
                have hdom : ∀ c, ((s3.set b { B with cells := [] }).get c).isSome = (s3.get c).isSome := fun c => by
                  rw [Store.get_set s3 b c _ (by rw [hB]; rfl)]; split
                  · rename_i e; subst e; rw [hB]; rfl
                  · rfl
                have hstep := hr.rename (cs := B.cells.take (len * i.size) ++ new) hB hrow hne hid hz' (fun c hc => by rw [← hdom]; exact hcl c hc) hrow' (rest := row.drop (len * i.size + k * i.size)) (by
                  rw [denL_append, List.length_append, List.length_append, denL_map, List.length_map, hc.1, hlc, List.length_drop, hrl]; omega)
                refine ⟨_, _, hstep, ?_⟩
                simp only [SV.den, Nat.zero_mul, Nat.sub_zero]
                rw [append_room h0 h1 ht0 ht1 hd hi (hx.lenOf w) (hx.all rfl) hroom]
                simp only [addr_add, Nat.zero_add, Sem.run_bind]
                have hst2 : (storeCells ⟨φ b, len * i.size, none⟩ (SV.denL ρ φ new)).run P w = .ok () (w.setRow (φ b) (SV.denL ρ φ (B.cells.take (len * i.size) ++ new) ++ row.drop (len * i.size + k * i.size)).toArray) := by
                  rw [hst]
                  congr 2
                  rw [← e1]
                rw [hst2, Result.andThen_ok, Sem.run_pure, named_id, named_cap hz']
              · cases h5
            · -- there is none
              have hkill := hr.putR b B [] (SV.denL ρ φ B.cells ++ rest) hB hne hrow rfl (by simp [SV.idsL]) (by simpa [SV.denL] using htot)
              simp only [SV.denL, List.nil_append] at hkill
              have hself : w.setRow (φ b) (SV.denL ρ φ B.cells ++ rest).toArray = w := setRow_self w (φ b) _ B.ty fr hg
              rw [hself] at hkill
              obtain ⟨φ', hst, hv⟩ := growS_ok h5 hkill.rel hn hzn (cap := grownCap w (len + k) (φ (capK b) / i.size) B.ty) (le_grownCap _ _ _ _)
              refine ⟨φ', _, hkill.trans hst, ?_⟩
              simp only [SV.den, Nat.zero_mul, Nat.sub_zero]
              have hold := first_row (n := i.size) (len := len) hr hB hrow (off := 0) (by omega) (Nat.le_refl len) (cap := φ (capK b) / i.size) (w1 := w.drew) rfl
              rw [List.drop_zero, List.take_of_length_le (by simp; omega)] at hold
              rw [append_grow h0 h1 ht0 ht1 hd hi hz (hx.lenOf w) (hx.all rfl) hold (by omega) s1 s2, ← hv]
          · cases h3
      · cases h3
    · cases h
theorem appendS_ok {X : Ctx} (hX : Knows ρ X) {id : Nat} {ts : Array TypeId} {s x v : SV} {st' : Store} {r wl : List Loc} (h : appendS P X id ts s x st = .ok v st' r wl) (hr : RelS P ρ E w0 φ st w) (ty : TypeId) :
    ∃ φ' w', Step P ρ E w0 φ st φ' st' w' ∧ (Builtin.append_ ts ty #[s.den ρ φ, x.den ρ φ]).run P w = .ok (v.den ρ φ') w' := by
  unfold appendS at h
  cases h0 : ts[0]? with
  | none => simp only [h0, Option.bind_none] at h; cases h
  | some t0 =>
    cases ht0 : P.underlying t0 with
    | none => simp only [h0, Option.bind_some, ht0] at h; cases h
    | some d0 =>
      cases h1 : ts[1]? with
      | none => simp only [h0, h1, Option.bind_some, Option.bind_none, ht0] at h; cases d0 <;> cases h
      | some t1 =>
        cases ht1 : P.underlying t1 with
        | none => simp only [h0, h1, Option.bind_some, ht0, ht1] at h; cases d0 <;> cases h
        | some d1 =>
          simp only [h0, h1, Option.bind_some, ht0, ht1] at h
          cases d0 <;> try (cases h; done)
          rename_i elem
          dsimp only at h
          cases hs : sizeS P elem with
          | none => simp only [hs] at h; cases h
          | some n =>
            cases hz : zeroS P elem with
            | none => simp only [hs, hz] at h; cases h
            | some zs =>
              simp only [hs, hz] at h
              split at h
              · rename_i hc
                simp only [Bool.and_eq_true, Nat.beq_eq] at hc
                obtain ⟨⟨hd, hzl⟩, hn⟩ := hc
                obtain ⟨q, s1, _, _, _, _, h2, h3, _, _⟩ := M.bind_ok h
                obtain ⟨rfl, hx⟩ := cellsOfS_ok (w := w) (φ := φ) hX h2 hr
                split at h3
                · rename_i hone
                  obtain ⟨i, z, hi, hin, hzz, hzn⟩ := info_of hs hz hzl
                  exact appendTo_ok h3 hr (Nat.le_of_ble_eq_true hn) hi hin hzz hzn hx hone h0 h1 ht0 ht1 hd
                · cases h3
              · cases h
theorem baseS_den {s : SV} {b off len : Nat} (h : baseS s = some (b, off, len)) : ∃ cap, s.den ρ φ = .slice (some ⟨φ b, off, none⟩) len cap := by
  unfold baseS at h
  split at h <;> cases h <;> exact ⟨_, rfl⟩
theorem copyS_ok {X : Ctx} (hX : Knows ρ X) {ts : Array TypeId} {s x v : SV} {st' : Store} {r wl : List Loc} (h : copyS P X ts s x st = .ok v st' r wl) (hr : RelS P ρ E w0 φ st w) (ty : TypeId) :
    ∃ w', Step P ρ E w0 φ st φ st' w' ∧ (Builtin.copy_ ts ty #[s.den ρ φ, x.den ρ φ]).run P w = .ok (v.den ρ φ) w' := by
  unfold copyS at h
  cases h0 : ts[0]? with
  | none => simp only [h0, Option.bind_none] at h; cases h
  | some t0 =>
    cases ht0 : P.underlying t0 with
    | none => simp only [h0, Option.bind_some, ht0] at h; cases h
    | some d0 =>
      simp only [h0, Option.bind_some, ht0] at h
      cases d0 <;> try (cases h; done)
      rename_i elem
      dsimp only at h
      cases hs : sizeS P elem with
      | none => simp only [hs] at h; cases h
      | some n =>
        cases hb : baseS s with
        | none => simp only [hs, hb] at h; cases h
        | some q0 =>
          obtain ⟨b, off, len⟩ := q0
          simp only [hs, hb] at h
          obtain ⟨q, s1, _, _, _, _, h2, h3, _, _⟩ := M.bind_ok h
          obtain ⟨rfl, hx⟩ := cellsOfS_ok (w := w) (φ := φ) hX h2 hr
          obtain ⟨B, s2, _, _, _, _, h4, h5, _, _⟩ := M.bind_ok h3
          obtain ⟨hB, rfl⟩ := rdB_ok h4
          split at h5
          · rename_i hc
            simp only [Bool.and_eq_true, Bool.not_eq_true', List.isEmpty_eq_false_iff] at hc
            obtain ⟨⟨⟨hrow, hl⟩, hone⟩, hne⟩ := hc
            have hl := Nat.le_of_ble_eq_true hl
            obtain ⟨_, s3, _, _, _, _, h6, h7, _, _⟩ := M.bind_ok h5
            obtain ⟨rfl, hcl⟩ := chk_ok h6
            obtain ⟨_, s4, _, _, _, _, h8, h9, _, _⟩ := M.bind_ok h7
            obtain ⟨rfl, rfl, _, _⟩ := M.pure_ok h9
            have hmle : Nat.min q.1 len ≤ q.1 := Nat.min_le_left _ _
            have hmn : Nat.min q.1 len * n ≤ q.1 * n := Nat.mul_le_mul_right _ hmle
            have e : (q.2.take (Nat.min q.1 len * n)).length = Nat.min q.1 len * n := by rw [List.length_take, hx.len]; omega
            rw [← e] at h8
            rw [← e] at hl
            obtain ⟨w', hst, hstep⟩ := lay_ok hr hB hrow hne hl (by rw [List.all_eq_true] at hone ⊢; exact fun v hv => hone v (List.mem_of_mem_take hv)) hcl (by rw [e] at h8 ⊢; exact h8)
            obtain ⟨cap, hden⟩ := baseS_den (ρ := ρ) (φ := φ) hb
            refine ⟨w', hstep, ?_⟩
            have hfc := hx.first _ hmle w rfl
            rw [hden]
            have hlen := hx.lenOf w
            unfold Builtin.copy_
            simp only [h0, List.getElem?_toArray, List.getElem?_cons_zero, List.getElem?_cons_succ, Sem.run_bind, run_underlying ht0, Result.andThen_ok, hlen, sizeS_run hs, hfc, hst, Sem.run_pure, SV.den, IE.den]
            rfl
          · cases h5
theorem byteEs_eq : ∀ {cs : List SV} {l : List IE}, byteEs cs = some l → cs = l.map (.int .u8 ·)
  | [], l, h => by simp [byteEs] at h; subst h; rfl
  | c :: cs, l, h => by
    unfold byteEs at h
    split at h
    · rename_i h0; cases h0
    · rename_i e cs' h0
      cases h0
      obtain ⟨l', h1, rfl⟩ := Option.map_eq_some_iff.1 h
      rw [byteEs_eq h1]; rfl
    · cases h
theorem mixBs_den {f : Nat} : ∀ (l : List IE) (i : Nat), SV.denL ρ φ (mixBs f i l) = (l.zipIdx i).map fun p => Value.int .u8 (ρ.a f p.2 (p.1.den ρ) 0)
  | [], i => rfl
  | e :: l, i => by simp only [mixBs, SV.denL, SV.den, IE.den, List.zipIdx_cons, List.map_cons, mixBs_den l (i + 1)]
theorem mixBs_ids {f : Nat} : ∀ (l : List IE) (i : Nat), SV.idsL (mixBs f i l) = []
  | [], i => rfl
  | e :: l, i => by simp only [mixBs, SV.idsL, SV.ids, mixBs_ids l (i + 1), List.nil_append]
theorem copyStrAt_ok {X : Ctx} (hX : Knows ρ X) {d : SD} {j : Nat} (hd : SOk ρ d (ρ.s j)) {b off len : Nat} {v : SV} {st' : Store} {r wl : List Loc} (h : copyStrAt X d b off len st = .ok v st' r wl) (hr : RelS P ρ E w0 φ st w) :
    ∃ w', Step P ρ E w0 φ st φ st' w' ∧ (storeCells ⟨φ b, off, none⟩ ((((ρ.s j).extract 0 (Nat.min (ρ.s j).size len)).data.map fun b => Value.int .u8 b.toNat).toList)).run P w = .ok () w' ∧ v.den ρ φ = .int .i64 (Nat.min (ρ.s j).size len : Nat) := by
  unfold copyStrAt at h
  obtain ⟨B, s1, _, _, _, _, h1, h2, _, _⟩ := M.bind_ok h
  obtain ⟨hB, rfl⟩ := rdB_ok h1
  cases hl : byteEs ((B.cells.drop off).take len) with
  | none => simp only [hl] at h2; cases h2
  | some l =>
    simp only [hl] at h2
    split at h2
    · rename_i hc
      simp only [Bool.and_eq_true, Bool.not_eq_true', List.isEmpty_eq_false_iff] at hc
      obtain ⟨⟨⟨hrow, hle⟩, hne⟩, hf⟩ := hc
      have hle := Nat.le_of_ble_eq_true hle
      obtain ⟨_, s4, _, _, _, _, h8, h9, _, _⟩ := M.bind_ok h2
      obtain ⟨rfl, rfl, _, _⟩ := M.pure_ok h9
      have hb := byteEs_eq hl
      have hll : l.length = len := by
        have := congrArg List.length hb
        simp at this; omega
      obtain ⟨hn, hby⟩ := hd
      have hbf := bytesFit_ok hX hf
      generalize hS : ρ.s j = S at hn hby
      have hnew : ((S.extract 0 (Nat.min S.size len)).data.map fun b => Value.int .u8 b.toNat).toList = ((S.data.toList.map fun b => (b.toNat : Int)).take (Nat.min S.size len)).map (Value.int .u8) := by
        obtain ⟨d⟩ := S
        rw [ByteArray.extract_mk]
        simp [List.map_take]
        rfl
      have hnl : (((S.data.toList.map fun b => (b.toNat : Int)).take (Nat.min S.size len)).map (Value.int .u8)).length = Nat.min S.size len := by
        have e1 : S.data.toList.length = S.size := by rw [Array.length_toList]; rfl
        rw [List.length_map, List.length_take, List.length_map, e1]
        exact Nat.min_eq_left (Nat.min_le_left _ _)
      rw [hnew]
      have hml : Nat.min S.size len ≤ len := Nat.min_le_right _ _
      obtain ⟨w', hst, hstep⟩ := lay_val (new := ((S.data.toList.map fun b => (b.toNat : Int)).take (Nat.min S.size len)).map (Value.int .u8)) hr hB hrow hne (off := off) (by rw [hnl]; omega)
        (by intro v hv; obtain ⟨x, _, rfl⟩ := List.mem_map.1 hv; rfl) (cs' := B.cells.take off ++ mixBs d.f 0 l ++ B.cells.drop (off + len)) (by
          have e0 : B.cells.drop off = l.map (.int .u8 ·) ++ B.cells.drop (off + len) := by
            rw [← hb, ← List.drop_drop, List.take_append_drop]
          have ed : (SV.denL ρ φ B.cells).drop off = (l.map fun e => Value.int .u8 (e.den ρ)) ++ (SV.denL ρ φ B.cells).drop (off + len) := by
            rw [denL_map, ← List.map_drop, e0, List.map_append, List.map_map, List.map_drop]
            rfl
          have key : SV.denL ρ φ (mixBs d.f 0 l) = ((S.data.toList.map fun b => (b.toNat : Int)).take (Nat.min S.size len)).map (Value.int .u8) ++ (l.map fun e => Value.int .u8 (e.den ρ)).drop (Nat.min S.size len) := by
            rw [mixBs_den]
            apply List.ext_getElem
            · rw [List.length_append, hnl]; simp; omega
            · intro i h1 h2
              have hi : i < l.length := by simpa using h1
              have hx := hbf l[i] (by simp)
              rw [List.getElem_map, List.getElem_zipIdx]
              simp only [Nat.zero_add]
              rw [hby i _ hx.1 hx.2]
              have e1 : S.data.toList.length = S.size := by rw [Array.length_toList]; rfl
              by_cases hlt : i < S.size
              · have hm : i < Nat.min S.size len := Nat.lt_min.2 ⟨hlt, by omega⟩
                rw [if_pos hlt, List.getElem_append_left (by rw [hnl]; exact hm), List.getElem_map, List.getElem_take]
                congr 1
                rw [List.getD_eq_getElem?_getD, List.getElem?_eq_getElem (by simp [e1]; omega)]
                rfl
              · have hm : Nat.min S.size len = S.size := Nat.min_eq_left (by omega)
                rw [if_neg hlt, List.getElem_append_right (by rw [hnl, hm]; omega), List.getElem_drop, List.getElem_map]
                have same : ∀ (k : Nat) (hk : k < l.length), k = i → l[i].den ρ = l[k].den ρ := by rintro k hk rfl; rfl
                exact congrArg _ (same _ _ (by rw [hnl, hm]; omega))
          have e3 : (SV.denL ρ φ B.cells).drop (off + Nat.min S.size len) = ((SV.denL ρ φ B.cells).drop off).drop (Nat.min S.size len) := (List.drop_drop ..).symm
          rw [hnl, e3, ed]
          rw [show SV.denL ρ φ (B.cells.take off ++ mixBs d.f 0 l ++ B.cells.drop (off + len)) = (SV.denL ρ φ B.cells).take off ++ SV.denL ρ φ (mixBs d.f 0 l) ++ (SV.denL ρ φ B.cells).drop (off + len) by simp [denL_map, List.map_take, List.map_drop]]
          rw [key, List.drop_append_of_le_length (by simp; omega)]
          simp only [List.append_assoc])
        (by
          intro c hc
          obtain ⟨y, hy, hcy⟩ := mem_idsL.1 hc
          simp only [List.mem_append] at hy
          rcases hy with (hy | hy) | hy
          · exact hr.cl b B hB c (mem_idsL.2 ⟨y, List.mem_of_mem_take hy, hcy⟩)
          · have : c ∈ SV.idsL (mixBs d.f 0 l) := mem_idsL.2 ⟨y, hy, hcy⟩
            rw [mixBs_ids] at this; cases this
          · exact hr.cl b B hB c (mem_idsL.2 ⟨y, List.mem_of_mem_drop hy, hcy⟩)) h8
      refine ⟨w', hstep, hst, ?_⟩
      simp only [SV.den, IE.den, hn, mnI]
      congr 1
      show _ = ((min S.size len : Nat) : Int)
      split <;> omega
    · cases h2
theorem copyStr_ok {X : Ctx} (hX : Knows ρ X) {ts : Array TypeId} {s v : SV} {j : Nat} {st' : Store} {r wl : List Loc} (h : copyStr P X ts s j st = .ok v st' r wl) (hr : RelS P ρ E w0 φ st w) (ty : TypeId) :
    ∃ w', Step P ρ E w0 φ st φ st' w' ∧ (Builtin.copy_ ts ty #[s.den ρ φ, .string (ρ.s j)]).run P w = .ok (v.den ρ φ) w' := by
  unfold copyStr at h
  cases h0 : ts[0]? with
  | none => simp only [h0, Option.bind_none] at h; cases h
  | some t0 =>
    cases ht0 : P.underlying t0 with
    | none => simp only [h0, Option.bind_some, ht0] at h; cases h
    | some d0 =>
      cases hd : X.ss[j]? with
      | none => simp only [h0, Option.bind_some, ht0, hd] at h; cases d0 <;> cases h
      | some d =>
        simp only [h0, Option.bind_some, ht0, hd] at h
        cases d0 <;> try (cases h; done)
        rename_i elem
        dsimp only at h
        cases hs : sizeS P elem with
        | none => simp only [hs] at h; cases h
        | some n =>
          cases hb : baseS s with
          | none => simp only [hs, hb] at h; (match n, h with | 0, h => cases h | 1, h => cases h | n + 2, h => cases h)
          | some q =>
            obtain ⟨b, off, len⟩ := q
            match n, hs, h with
            | 0, hs, h => simp only [hs, hb] at h; cases h
            | n + 2, hs, h => simp only [hs, hb] at h; cases h
            | 1, hs, h =>
              simp only [hs, hb] at h
              obtain ⟨w', hstep, hst, hv⟩ := copyStrAt_ok hX (hX.ss j d hd) h hr
              obtain ⟨cap, hden⟩ := baseS_den (ρ := ρ) (φ := φ) hb
              refine ⟨w', hstep, ?_⟩
              rw [hden, hv]
              unfold Builtin.copy_
              simp only [h0, List.getElem?_toArray, List.getElem?_cons_zero, List.getElem?_cons_succ, Sem.run_bind, run_underlying ht0, Result.andThen_ok, Builtin.lenOf, sizeS_run hs, Builtin.firstCells, Sem.run_pure, hst]
              rfl
end Ev
end Go.Proofs.Ytmgfnejiienghaa
