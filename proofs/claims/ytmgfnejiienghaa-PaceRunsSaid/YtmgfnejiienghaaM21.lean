/- A checked evaluator: appends, copies, conversions, maps, types asserted. -/
import Derived.Test.YtmgfnejiienghaaM20
import Derived.Laws.Append
import Derived.Laws.BytesString
namespace Go.Proofs.Ytmgfnejiienghaa
open Go Go.RowKit
set_option linter.unusedVariables false
namespace Ev
variable {P : Program} {ρ : Env} {E : List (Nat × Nat)} {w0 : World} {φ : Nat → Nat} {st : Store} {w : World}

theorem rowS_ok {b off m : Nat} {cs : List SV} {st' : Store} {r wl : List Loc} (h : rowS b off m st = .ok cs st' r wl) :
    st' = st ∧ ∃ B, st.get b = some B ∧ headIs B.cells = false ∧ off + m ≤ B.cells.length ∧ cs = (B.cells.drop off).take m := by
  unfold rowS at h
  obtain ⟨B, s1, _, _, _, _, h1, h2, _, _⟩ := M.bind_ok h
  obtain ⟨hB, rfl⟩ := rdB_ok h1
  split at h2
  · rename_i hc
    simp only [Bool.and_eq_true, Bool.not_eq_true'] at hc
    obtain ⟨rfl, rfl, _, _⟩ := M.pure_ok h2
    exact ⟨rfl, B, hB, hc.1, Nat.le_of_ble_eq_true hc.2, rfl⟩
  · cases h2
theorem row_cells (hr : RelS P ρ E w0 φ st w) {b off m : Nat} {B : Blk} (hB : st.get b = some B) (hrow : headIs B.cells = false) (hle : off + m ≤ B.cells.length) {w1 : World} (hw : w1.heap = w.heap) :
    ∀ (j : Nat) v, (SV.denL ρ φ ((B.cells.drop off).take m))[j]? = some v → w1.cell? ((⟨φ b, off, none⟩ : Addr).add j) = some v := by
  intro j v hv
  obtain ⟨rest, fr, hg, _, _⟩ := hr.row hB hrow
  rw [← hw] at hg
  rw [addr_add, cell_of_row w1 (φ b) (off + j) _ B.ty fr hg]
  have hj : j < m := by
    have := (List.getElem?_eq_some_iff.1 hv).1
    simp [denL_map] at this; omega
  rw [denL_map, List.getElem?_map, List.getElem?_take, if_pos hj, List.getElem?_drop] at hv
  simp only [List.getElem?_toArray]
  rw [List.getElem?_append_left (by simp [denL_map]; omega), denL_map, List.getElem?_map]
  exact hv
theorem row_ids (hr : RelS P ρ E w0 φ st w) {b off m : Nat} {B : Blk} (hB : st.get b = some B) : ∀ c ∈ SV.idsL ((B.cells.drop off).take m), (st.get c).isSome := by
  intro c hc
  obtain ⟨y, hy, hcy⟩ := mem_idsL.1 hc
  exact hr.cl b B hB c (mem_idsL.2 ⟨y, List.mem_of_mem_drop (List.mem_of_mem_take hy), hcy⟩)
/-- what is appended or copied -/
structure CellsOk (P : Program) (ρ : Env) (φ : Nat → Nat) (st : Store) (w : World) (n : Nat) (x : SV) (k : Nat) (cs : List SV) : Prop where
  len : cs.length = k * n
  ids : ∀ c ∈ SV.idsL cs, (st.get c).isSome
  lenOf : ∀ w1 : World, (Builtin.lenOf (x.den ρ φ)).run P w1 = .ok k w1
  first : ∀ m, m ≤ k → ∀ w1 : World, w1.heap = w.heap → (Builtin.firstCells n m (x.den ρ φ)).run P w1 = .ok (SV.denL ρ φ (cs.take (m * n))).toArray w1
theorem first_row (hr : RelS P ρ E w0 φ st w) {b off len n cap : Nat} {B : Blk} (hB : st.get b = some B) (hrow : headIs B.cells = false) (hle : off + len * n ≤ B.cells.length) {m : Nat} (hm : m ≤ len) {w1 : World} (hw : w1.heap = w.heap) :
    (Builtin.firstCells n m (.slice (some ⟨φ b, off, none⟩) len cap)).run P w1 = .ok (SV.denL ρ φ (((B.cells.drop off).take (len * n)).take (m * n))).toArray w1 := by
  have hmn : m * n ≤ len * n := Nat.mul_le_mul_right _ hm
  have e : ((B.cells.drop off).take (len * n)).take (m * n) = (B.cells.drop off).take (m * n) := by rw [List.take_take, Nat.min_eq_left hmn]
  rw [e]
  exact run_firstCells_some w1 n m _ len cap _ (by simp [denL_map]; omega) (row_cells hr hB hrow (by omega) hw)
theorem bytes_first (l : List IE) {X : Ctx} (hX : Knows ρ X) (hf : bytesFit X l = true) (m : Nat) : ((bytesI (l.map (IE.den ρ))).extract 0 m).data.map (fun b => Value.int .u8 b.toNat) = (SV.denL ρ φ ((l.map (SV.int .u8 ·)).take (m * 1))).toArray := by
  rw [bytesI_eq, ByteArray.extract_mk]
  apply Array.ext'
  simp only [Array.toList_map, List.drop_zero, Nat.sub_zero, Nat.mul_one, denL_map, List.map_take, List.map_map]
  congr 1
  apply List.map_congr_left
  intro e he
  simp only [Function.comp, SV.den]
  rw [toB_toNat (bytesFit_ok hX hf e he)]
theorem cellsElse_ok {X : Ctx} (hX : Knows ρ X) {n : Nat} {x : SV} {q : Nat × List SV} {st' : Store} {r wl : List Loc} (h : cellsElse X n x st = .ok q st' r wl) : st' = st ∧ CellsOk P ρ φ st w n x q.1 q.2 := by
  unfold cellsElse at h
  cases hl : strB x with
  | none => simp only [hl] at h; cases h
  | some l =>
    simp only [hl] at h
    split at h
    · rename_i hc
      simp only [Bool.and_eq_true, Nat.beq_eq] at hc
      obtain ⟨rfl, hf⟩ := hc
      obtain ⟨rfl, rfl, _, _⟩ := M.pure_ok h
      refine ⟨rfl, by simp, fun c hc => ?_, fun w1 => ?_, fun m hm w1 hw => ?_⟩
      · obtain ⟨y, hy, hcy⟩ := mem_idsL.1 hc
        obtain ⟨e, _, rfl⟩ := List.mem_map.1 hy
        simp [SV.ids] at hcy
      · rw [strB_den hl]
        simp [Builtin.lenOf, bytesI_eq, ByteArray.size_mk']
      · rw [strB_den hl]
        simp only [Builtin.firstCells, Sem.run_pure]
        rw [bytes_first l hX hf]
    · cases h
theorem cellsOfS_ok {X : Ctx} (hX : Knows ρ X) {n : Nat} {x : SV} {q : Nat × List SV} {st' : Store} {r wl : List Loc} (h : cellsOfS X n x st = .ok q st' r wl) (hr : RelS P ρ E w0 φ st w) : st' = st ∧ CellsOk P ρ φ st w n x q.1 q.2 := by
  unfold cellsOfS at h
  split at h
  · rename_i b off len cap
    obtain ⟨cs, s1, _, _, _, _, h1, h2, _, _⟩ := M.bind_ok h
    obtain ⟨rfl, B, hB, hrow, hle, rfl⟩ := rowS_ok h1
    obtain ⟨rfl, rfl, _, _⟩ := M.pure_ok h2
    exact ⟨rfl, by simp; omega, row_ids hr hB, fun _ => rfl, fun m hm w1 hw => first_row hr hB hrow hle hm hw⟩
  · rename_i b sz len d
    split at h
    · rename_i hs
      have hs : sz = n := by simpa using hs
      subst hs
      obtain ⟨cs, s1, _, _, _, _, h1, h2, _, _⟩ := M.bind_ok h
      obtain ⟨rfl, B, hB, hrow, hle, rfl⟩ := rowS_ok h1
      obtain ⟨rfl, rfl, _, _⟩ := M.pure_ok h2
      exact ⟨rfl, by simp; omega, row_ids hr hB, fun _ => rfl, fun m hm w1 hw => first_row hr hB hrow hle hm hw⟩
    · cases h
  · obtain ⟨rfl, rfl, _, _⟩ := M.pure_ok h
    exact ⟨rfl, by simp, by simp [SV.idsL], fun _ => rfl, fun m hm w1 hw => by simp [SV.den, Builtin.firstCells, SV.denL]⟩
  · exact cellsElse_ok hX h
theorem zeroCells_size (z : Array Value) (n : Nat) : (Builtin.zeroCells z n).size = n * z.size := by simp [Builtin.zeroCells]
theorem le_grownCap (w : World) (need old : Nat) (e : TypeId) : need ≤ grownCap w need old e := by
  unfold grownCap Question.cut
  exact Nat.le_add_right _ _
section
variable {ts : Array TypeId} {t0 t1 ty elem : TypeId} {d1 : TypeDesc} {i : TypeInfo} {z : Value} {base : Option Addr} {sLen sCap k : Nat} {x : Value} {new old : Array Value}
theorem notInt_or {d1 : TypeDesc} (h : notInt d1 = true) : d1 = .string ∨ ∃ e, d1 = .slice e := by
  cases d1 <;> first | exact .inl rfl | exact .inr ⟨_, rfl⟩ | (simp [notInt] at h)
/-- an append where there is room -/
theorem append_room (h0 : ts[0]? = some t0) (h1 : ts[1]? = some t1) (ht0 : P.underlying t0 = some (.slice elem)) (ht1 : P.underlying t1 = some d1) (hd : notInt d1 = true) (hi : P.info? elem = some i) (hlen : (Builtin.lenOf x).run P w = .ok k w)
    (hnew : (Builtin.firstCells i.size k x).run P w = .ok new w) (hle : sLen + k ≤ sCap) :
    (Builtin.append_ ts ty #[.slice base sLen sCap, x]).run P w = (do (match base with | some a => storeCells (a.add (sLen * i.size)) new.toList | none => pure ()); pure (Value.slice base (sLen + k) sCap) : Sem Value).run P w := by
  rcases notInt_or hd with rfl | ⟨e1, rfl⟩ <;> cases base <;> simp [Builtin.append_, h0, h1, run_underlying ht0, run_underlying ht1, sizeOf, typeInfo, hi, hlen, hle, hnew]
/-- an append that makes a row anew -/
theorem append_grow (h0 : ts[0]? = some t0) (h1 : ts[1]? = some t1) (ht0 : P.underlying t0 = some (.slice elem)) (ht1 : P.underlying t1 = some d1) (hd : notInt d1 = true) (hi : P.info? elem = some i) (hz : i.zero = some z) (hlen : (Builtin.lenOf x).run P w = .ok k w)
    (hnew : (Builtin.firstCells i.size k x).run P w.drew = .ok new w.drew) (hold : (Builtin.firstCells i.size sLen (.slice base sLen sCap)).run P w.drew = .ok old w.drew) (hgt : sCap < sLen + k) (hs1 : (sLen + k) * i.bytes ≤ 1000000000) (hs2 : sLen + k ≤ 1000000000) :
    (Builtin.append_ ts ty #[.slice base sLen sCap, x]).run P w =
      .ok (.slice (some ⟨w.heap.size, 0, none⟩) (sLen + k) (grownCap w (sLen + k) sCap elem)) (w.drew.alloc (.cells (old ++ new ++ Builtin.zeroCells z.cells (grownCap w (sLen + k) sCap elem - (sLen + k))) elem)) := by
  have hn : ¬ (sLen + k ≤ sCap) := by omega
  have h63 : ¬ (9223372036854775807 < ((sLen : Int) + (k : Int))) := by omega
  have hfit := growslice_fits (bytes := i.bytes) hgt (by omega)
  have h48 : ¬ (281474976710656 < Builtin.nextslicecap (sLen + k) sCap * i.bytes) := by omega
  rcases notInt_or hd with rfl | ⟨e1, rfl⟩ <;> simp [Builtin.append_, h0, h1, run_underlying ht0, run_underlying ht1, sizeOf, typeInfo, zeroValue, hi, hz, hlen, hn, h63, h48, Question.forced, hnew, hold, newRow, grownCap]
end
theorem smallS_ok {elem : TypeId} {i : TypeInfo} {need : Nat} (hi : P.info? elem = some i) (h : smallS P elem need = true) : need * i.bytes ≤ 1000000000 ∧ need ≤ 1000000000 := by
  simp only [smallS, hi, Bool.and_eq_true] at h
  exact ⟨Nat.le_of_ble_eq_true h.1, Nat.le_of_ble_eq_true h.2⟩
theorem info_of {elem : TypeId} {n : Nat} {zs : List SV} (hs : sizeS P elem = some n) (hz : zeroS P elem = some zs) (hn : zs.length = n) : ∃ i z, P.info? elem = some i ∧ i.size = n ∧ i.zero = some z ∧ z.cells.size = n := by
  unfold sizeS at hs
  unfold zeroS at hz
  cases hi : P.info? elem with
  | none => simp [hi] at hs
  | some i =>
    simp only [hi, Option.map_some, Option.some.injEq] at hs
    simp only [hi, Option.bind_some] at hz
    cases hzz : i.zero with
    | none => simp [hzz] at hz
    | some z =>
      simp only [hzz, Option.bind_some] at hz
      refine ⟨i, z, rfl, hs, hzz, ?_⟩
      have := (parts_den (ρ := {}) (φ := id) hz).1
      rw [ofValue_den] at this
      rw [this]; simp [denL_map, hn]
/-- a row that grew: what it is -/
theorem growS_ok {id : Nat} {elem : TypeId} {n len k : Nat} {old new : List SV} {v : SV} {st' : Store} {r wl : List Loc} (h : growS id elem n len k old new st = .ok v st' r wl) (hr : RelS P ρ E w0 φ st w) (hn : 1 ≤ n) {z : Value} (hz : z.cells.size = n) {cap : Nat} (hcap : len + k ≤ cap) :
    ∃ φ', Step P ρ E w0 φ st φ' st' (w.drew.alloc (.cells ((SV.denL ρ φ old).toArray ++ (SV.denL ρ φ new).toArray ++ Builtin.zeroCells z.cells (cap - (len + k))) elem)) ∧ Value.slice (some ⟨w.heap.size, 0, none⟩) (len + k) cap = v.den ρ φ' := by
  unfold growS at h
  split at h
  · rename_i hc
    simp only [Bool.and_eq_true, Nat.beq_eq] at hc
    obtain ⟨_, s1, _, _, _, _, h1, h2, _, _⟩ := M.bind_ok h
    obtain ⟨hid, hz', hcl, hrow, rfl⟩ := newR_ok h1
    obtain ⟨rfl, rfl, _, _⟩ := M.pure_ok h2
    have hd : RelS P ρ E w0 φ st w.drew := hr.heap rfl rfl rfl rfl
    obtain ⟨φ', hs, hnew, hcp⟩ := hd.newR id ⟨elem, old ++ new⟩ (Builtin.zeroCells z.cells (cap - (len + k))).toList (0, 0) hid hz' hcl hrow (.inl rfl)
    refine ⟨φ', ?_, ?_⟩
    · have e : (SV.denL ρ φ old).toArray ++ (SV.denL ρ φ new).toArray ++ Builtin.zeroCells z.cells (cap - (len + k)) = (SV.denL ρ φ (old ++ new) ++ (Builtin.zeroCells z.cells (cap - (len + k))).toList).toArray := by
        apply Array.ext'
        simp [denL_map]
      rw [e]; exact hs
    · have hl : (old ++ new).length + (Builtin.zeroCells z.cells (cap - (len + k))).toList.length = cap * n := by
        rw [List.length_append, hc.1, hc.2, Array.length_toList, zeroCells_size, hz, ← Nat.add_mul, ← Nat.add_mul, Nat.add_sub_cancel' hcap]
      simp only [SV.den, hnew, hcp, Nat.zero_mul, Nat.sub_zero]
      rw [hl, Nat.mul_div_cancel _ (by omega)]
      rfl
  · cases h
theorem abOf_nil {s : SV} (h : abOf s = .nil) : s = .raw (.slice none 0 0) := by
  unfold abOf at h
  split at h <;> first | rfl | cases h
theorem abOf_lit {s : SV} {b off len cap : Nat} (h : abOf s = .lit b off len cap) : s = .slice b off len cap := by
  unfold abOf at h
  split at h <;> first | (cases h; rfl) | cases h
theorem abOf_grow {s : SV} {b sz len : Nat} (h : abOf s = .grow b sz len) : s = .sl b sz len 0 := by
  unfold abOf at h
  split at h <;> first | (cases h; rfl) | cases h
theorem all_one {cs : List SV} (h : cs.all SV.one = true) : ∀ v ∈ SV.denL ρ φ cs, v.oneCell' = true := by
  intro v hv
  rw [denL_map] at hv
  obtain ⟨y, hy, rfl⟩ := List.mem_map.1 hv
  exact one_den (List.all_eq_true.1 h y hy)
/-- cells laid into a row by the model; the evaluator's row has them as it is told -/
theorem lay_val (hr : RelS P ρ E w0 φ st w) {b off : Nat} {B : Blk} {new : List Value} {cs' : List SV} (hB : st.get b = some B) (hrow : headIs B.cells = false) (hne : B.cells ≠ []) (hle : off + new.length ≤ B.cells.length) (hone : ∀ v ∈ new, v.oneCell' = true)
    (hden : SV.denL ρ φ cs' = (SV.denL ρ φ B.cells).take off ++ new ++ (SV.denL ρ φ B.cells).drop (off + new.length)) (hcl : ∀ c ∈ SV.idsL cs', (st.get c).isSome)
    {u : Unit} {st' : Store} {r wl : List Loc} (h : wrR b B cs' st = .ok u st' r wl) :
    ∃ w', (storeCells ⟨φ b, off, none⟩ new).run P w = .ok () w' ∧ Step P ρ E w0 φ st φ st' w' := by
  obtain ⟨hrow', hlen', rfl⟩ := wrR_ok h
  obtain ⟨rest, fr, hg, htot, hclear⟩ := hr.row hB hrow
  have hlB : (SV.denL ρ φ B.cells).length = B.cells.length := by rw [denL_map]; simp
  have hst := run_storeCells_clear P (φ b) off B.ty fr new 0 _ w hg (by simpa [htot] using hclear) (by simp [hlB]; omega) hone
  simp only [Nat.add_zero] at hst
  have e := lay_list (xs := SV.denL ρ φ B.cells) (ys := new) (rest := rest) (n := new.length) rfl (by omega : off + new.length ≤ _)
  rw [e, ← hden] at hst
  refine ⟨_, hst, hr.putR b B _ rest hB hne hrow hrow' hcl ?_⟩
  rw [← htot, List.length_append, List.length_append, denL_map, denL_map, List.length_map, List.length_map, hlen']
/-- cells laid into a row by the model and by the evaluator -/
theorem lay_ok (hr : RelS P ρ E w0 φ st w) {b off : Nat} {B : Blk} {cs : List SV} (hB : st.get b = some B) (hrow : headIs B.cells = false) (hne : B.cells ≠ []) (hle : off + cs.length ≤ B.cells.length) (hone : cs.all SV.one = true) (hcl : ∀ c ∈ SV.idsL cs, (st.get c).isSome)
    {u : Unit} {st' : Store} {r wl : List Loc} (h : wrR b B (B.cells.take off ++ cs ++ B.cells.drop (off + cs.length)) st = .ok u st' r wl) :
    ∃ w', (storeCells ⟨φ b, off, none⟩ (SV.denL ρ φ cs)).run P w = .ok () w' ∧ Step P ρ E w0 φ st φ st' w' := by
  obtain ⟨hrow', hlen', rfl⟩ := wrR_ok h
  obtain ⟨rest, fr, hg, htot, hclear⟩ := hr.row hB hrow
  have hlB : (SV.denL ρ φ B.cells).length = B.cells.length := by rw [denL_map]; simp
  have hlc : (SV.denL ρ φ cs).length = cs.length := by rw [denL_map]; simp
  have hden : SV.denL ρ φ (B.cells.take off ++ cs ++ B.cells.drop (off + cs.length)) = (SV.denL ρ φ B.cells).take off ++ SV.denL ρ φ cs ++ (SV.denL ρ φ B.cells).drop (off + cs.length) := by
    simp [denL_map, List.map_take, List.map_drop]
  have hst := run_storeCells_clear P (φ b) off B.ty fr (SV.denL ρ φ cs) 0 _ w hg (by simpa [htot] using hclear) (by simp [hlc, hlB]; omega) (all_one hone)
  simp only [Nat.add_zero, hlc] at hst
  have e := lay_list (xs := SV.denL ρ φ B.cells) (rest := rest) hlc (by omega : off + cs.length ≤ _)
  rw [e, ← hden] at hst
  refine ⟨_, hst, hr.putR b B _ rest hB hne hrow hrow' (fun c hc => ?_) ?_⟩
  · obtain ⟨y, hy, hcy⟩ := mem_idsL.1 hc
    simp only [List.mem_append] at hy
    rcases hy with (hy | hy) | hy
    · exact hr.cl b B hB c (mem_idsL.2 ⟨y, List.mem_of_mem_take hy, hcy⟩)
    · exact hcl c (mem_idsL.2 ⟨y, hy, hcy⟩)
    · exact hr.cl b B hB c (mem_idsL.2 ⟨y, List.mem_of_mem_drop hy, hcy⟩)
  · rw [← htot, List.length_append, List.length_append, denL_map, denL_map, List.length_map, List.length_map, hlen']
end Ev
end Go.Proofs.Ytmgfnejiienghaa
