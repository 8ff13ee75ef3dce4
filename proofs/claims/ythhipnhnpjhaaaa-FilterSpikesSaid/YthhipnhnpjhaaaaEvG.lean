/- A checked evaluator: parts of structs, arrays and slices; equality of structs. -/
import Derived.Test.YthhipnhnpjhaaaaEvF
namespace Go.Proofs.Ythhipnhnpjhaaaa
open Go Go.RowKit
set_option linter.unusedVariables false
namespace Ev
variable {P : Program} {ρ : Env} {E : List (Nat × Nat)} {w0 : World} {φ : Nat → Nat} {st : Store} {w : World}

theorem splice_fold (off : Nat) : ∀ (cs : List Value) (j : Nat) (l : List Value), off + j + cs.length ≤ l.length →
    (cs.zipIdx j).foldl (fun (acc : Array Value) (p : Value × Nat) => acc.setIfInBounds (off + p.2) p.1) l.toArray = (l.take (off + j) ++ cs ++ l.drop (off + j + cs.length)).toArray
  | [], j, l, h => by simp
  | c :: cs, j, l, h => by
    simp only [List.length_cons] at h
    simp only [List.zipIdx_cons, List.foldl_cons]
    have e : l.toArray.setIfInBounds (off + j) c = (l.set (off + j) c).toArray := by simp
    rw [e, splice_fold off cs (j + 1) _ (by simp; omega)]
    congr 1
    apply List.ext_getElem?
    intro i
    simp only [List.getElem?_append, List.length_append, List.length_take, List.length_set, List.length_cons, List.getElem?_take, List.getElem?_drop, List.getElem?_set]
    have hm1 : min (off + (j + 1)) l.length = off + j + 1 := by omega
    have hm2 : min (off + j) l.length = off + j := by omega
    simp only [hm1, hm2]
    by_cases h1 : i < off + j
    · simp [h1, show i < off + j + 1 + cs.length by omega, show i < off + j + 1 by omega, show i < off + (j + 1) by omega, show i < off + j + (cs.length + 1) by omega, show ¬ off + j = i by omega]
    · by_cases h2 : i = off + j
      · subst h2
        simp [show off + j < off + j + 1 + cs.length by omega, show off + j < off + (j + 1) by omega, show off + j < l.length by omega]
      · by_cases h3 : i < off + j + 1 + cs.length
        · simp [h1, h3, show ¬ i < off + j + 1 by omega, show i < off + j + (cs.length + 1) by omega]
          rw [List.getElem?_cons, if_neg (by omega)]
          congr 1
        · simp [h3, show ¬ i < off + j + (cs.length + 1) by omega]
          rw [if_neg (by omega)]
          congr 1; omega
theorem fillS_ok (place : Nat → Option (Nat × Nat)) : ∀ (ps : List (Nat × SV)) (cells out : List SV), fillS place cells ps = some out →
    Instr.fill place (SV.denL ρ φ cells).toArray (ps.map fun p => (p.1, p.2.den ρ φ)) = some (SV.denL ρ φ out).toArray
  | [], cells, out, h => by
    simp only [fillS, Option.some.injEq] at h
    subst h; rfl
  | (i, v) :: ps, cells, out, h => by
    simp only [fillS] at h
    cases hp : place i with
    | none => simp [hp] at h
    | some q =>
      obtain ⟨off, size⟩ := q
      cases hv : v.parts with
      | none => simp [hp, hv] at h
      | some cs =>
        simp only [hp, hv] at h
        split at h
        · rename_i hle
          simp only [Bool.and_eq_true, Nat.beq_eq] at hle
          obtain ⟨h1, h2⟩ := hle
          have h2 := Nat.le_of_ble_eq_true h2
          have ih := fillS_ok place ps _ out h
          obtain ⟨hc, _⟩ := parts_den (ρ := ρ) (φ := φ) hv
          have hl1 : (SV.denL ρ φ cs).length = cs.length := by rw [denL_map]; simp
          have hl2 : (SV.denL ρ φ cells).length = cells.length := by rw [denL_map]; simp
          simp only [List.map_cons, Instr.fill, hp, hc, List.size_toArray, hl1, hl2, h1]
          have hno : ¬ (decide (size ≠ size) || decide (off + size > cells.length)) = true := by simp; omega
          rw [if_neg (by simpa [h1] using hno)]
          have hf := splice_fold off (SV.denL ρ φ cs) 0 (SV.denL ρ φ cells) (by rw [hl1, hl2]; omega)
          have hz : (SV.denL ρ φ cs).toArray.zipIdx = ((SV.denL ρ φ cs).zipIdx 0).toArray := by simp
          rw [hz]
          simp only [List.foldl_toArray']
          simp only [Nat.add_zero] at hf
          rw [hf]
          have he : (SV.denL ρ φ cells).take off ++ SV.denL ρ φ cs ++ (SV.denL ρ φ cells).drop (off + (SV.denL ρ φ cs).length) = SV.denL ρ φ (cells.take off ++ cs ++ cells.drop (off + cs.length)) := by
            rw [hl1]
            simp [denL_map, List.map_take, List.map_drop]
          rw [he]; exact ih
        · cases h
theorem denL_append (a b : List SV) : SV.denL ρ φ (a ++ b) = SV.denL ρ φ a ++ SV.denL ρ φ b := by simp [denL_map]
theorem denL_length (a : List SV) : (SV.denL ρ φ a).length = a.length := by simp [denL_map]
theorem zip_den : ∀ (is : List Nat) (vs : List SV), (is.zip vs).map (fun p => (p.1, p.2.den ρ φ)) = is.zip (SV.denL ρ φ vs)
  | [], vs => by simp
  | i :: is, [] => by simp [SV.denL]
  | i :: is, v :: vs => by simp [SV.denL, zip_den is vs]
theorem places_run : ∀ (fs : List Field), fs.all (fun f => (sizeS P f.type).isSome) = true →
    (fs.mapM (m := Sem) fun f => do pure (f.offset, ← sizeOf f.type)).run P w = .ok (fs.map fun f => (f.offset, (sizeS P f.type).getD 0)) w
  | [], _ => by simp
  | f :: fs, h => by
    simp only [List.all_cons, Bool.and_eq_true] at h
    obtain ⟨n, hn⟩ := Option.isSome_iff_exists.1 h.1
    have ih := places_run fs h.2
    simp only [List.mapM_cons, Sem.run_bind, sizeS_run hn, Result.andThen_ok, Sem.run_pure, ih, List.map_cons, hn, Option.getD_some]
theorem build_struct {t : TypeId} {fs : Array Field} {z out : List SV} {is : List Nat} {vs : List SV} (hu : P.underlying t = some (.struct fs)) (hz : zeroS P t = some z) (hall : fs.all (fun f => (sizeS P f.type).isSome) = true)
    (hf : fillS (placeS P fs) z (is.zip vs) = some out) (w : World) :
    (Instr.build t (is.zip (SV.denL ρ φ vs)).toArray).run P w = .ok (.agg (SV.denL ρ φ out).toArray) w := by
  obtain ⟨zv, hzr, hzc⟩ := zeroS_run (ρ := ρ) (φ := φ) hz w
  have hm : (fs.mapM (m := Sem) fun f => do pure (f.offset, ← sizeOf f.type)).run P w = .ok (fs.toList.map fun f => (f.offset, (sizeS P f.type).getD 0)).toArray w := by
    have h1 := places_run (P := P) (w := w) fs.toList (by simpa using hall)
    have h2 : (fs.mapM (m := Sem) fun f => do pure (f.offset, ← sizeOf f.type)) = (fs.toList.mapM (m := Sem) fun f => do pure (f.offset, ← sizeOf f.type)) >>= fun l => pure l.toArray := by
      rw [Array.mapM_eq_mapM_toList]; rfl
    rw [h2, Sem.run_bind, h1]; rfl
  have hfill := fillS_ok (ρ := ρ) (φ := φ) _ _ _ _ hf
  rw [zip_den] at hfill
  have hplace : (fun (i : Nat) => (fs.toList.map fun (f : Field) => (f.offset, (sizeS P f.type).getD 0)).toArray[i]?) = placeS P fs := by
    funext i
    unfold placeS
    cases hi : fs[i]? with
    | none => simp [hi]
    | some f =>
      have hs : (sizeS P f.type).isSome := by
        rw [Array.all_eq_true'] at hall
        exact hall f (Array.mem_of_getElem? hi)
      obtain ⟨n, hn⟩ := Option.isSome_iff_exists.1 hs
      simp [hi, hn]
  simp only [Instr.build, Sem.run_bind, hzr, Result.andThen_ok, run_underlying hu, hm, hzc, hplace, hfill, Sem.run_pure]
theorem build_array {t elem : TypeId} {len n : Nat} {z out : List SV} {is : List Nat} {vs : List SV} (hu : P.underlying t = some (.array len elem)) (hz : zeroS P t = some z) (hs : sizeS P elem = some n)
    (hf : fillS (fun i => some (i * n, n)) z (is.zip vs) = some out) (w : World) :
    (Instr.build t (is.zip (SV.denL ρ φ vs)).toArray).run P w = .ok (.agg (SV.denL ρ φ out).toArray) w := by
  obtain ⟨zv, hzr, hzc⟩ := zeroS_run (ρ := ρ) (φ := φ) hz w
  have hfill := fillS_ok (ρ := ρ) (φ := φ) _ _ _ _ hf
  rw [zip_den] at hfill
  simp only [Instr.build, Sem.run_bind, hzr, Result.andThen_ok, run_underlying hu, hzc, sizeS_run hs, hfill, Sem.run_pure]
theorem repl_get (z : List Value) (n : Nat) (hn : z.length = n) : ∀ len : Nat, (Array.range (len * n)).map (fun i => z.toArray[i % z.toArray.size]!) = (List.replicate len z).flatten.toArray := by
  intro len
  apply Array.ext_getElem?
  intro i
  have hlen : ∀ len, ((List.replicate len z).flatten).length = len * n := fun len => by simp [hn]
  have key : ∀ len i, i < len * n → ((List.replicate len z).flatten)[i]? = z[i % n]? := by
    intro len
    induction len with
    | zero => intro i h; simp at h
    | succ len ih =>
      intro i h
      rw [List.replicate_succ, List.flatten_cons, List.getElem?_append]
      split
      · rename_i h1
        rw [Nat.mod_eq_of_lt (by omega)]
      · rename_i h1
        rw [Nat.succ_mul] at h
        rw [ih (i - z.length) (by omega), hn]
        have : n ≤ i := by omega
        rw [Nat.mod_eq_sub_mod this]
  by_cases h : i < len * n
  · have hn0 : 0 < n := by
      rcases Nat.eq_zero_or_pos n with h0 | h0
      · subst h0; simp at h
      · exact h0
    have hm : i % n < z.length := by rw [hn]; exact Nat.mod_lt _ hn0
    have hk := key len i h
    have e : (List.replicate len z).flatten.toArray[i]? = z[i % n]? := by rw [← hk]; simp
    rw [e, List.getElem?_eq_getElem hm]
    simp [h, hn]
    rw [List.getElem?_eq_getElem hm]; rfl
  · have hl := hlen len
    rw [Array.getElem?_eq_none (by simp only [Array.size_map, Array.size_range]; omega), Array.getElem?_eq_none (by simp only [List.size_toArray]; omega)]
theorem buildSlice_run {t elem : TypeId} {len n : Nat} {z out : List SV} {is : List Nat} {vs : List SV} (hu : P.underlying t = some (.slice elem)) (hz : zeroS P elem = some z) (hs : sizeS P elem = some n) (hl : z.length = n) (hle : len * n ≤ 16777216)
    (hf : fillS (fun i => some (i * n, n)) (List.replicate len z).flatten (is.zip vs) = some out) (w : World) :
    (Instr.buildSlice t len (is.zip (SV.denL ρ φ vs)).toArray).run P w = .ok (.slice (some ⟨w.heap.size, 0, none⟩) len len) (w.alloc (.cells (SV.denL ρ φ out).toArray elem)) := by
  obtain ⟨zv, hzr, hzc⟩ := zeroS_run (ρ := ρ) (φ := φ) hz w
  have hfill := fillS_ok (ρ := ρ) (φ := φ) _ _ _ _ hf
  rw [zip_den] at hfill
  have hrep : (SV.denL ρ φ (List.replicate len z).flatten) = (List.replicate len (SV.denL ρ φ z)).flatten := by simp [denL_map, List.map_flatten]
  have hg := repl_get (SV.denL ρ φ z) n (by rw [denL_length]; exact hl) len
  rw [hrep, ← hg] at hfill
  have hno : ¬ len * n > 2 ^ 24 := by omega
  by_cases h0 : len * n = 0
  · have hr : ∀ f : Nat → Value, (Array.range (len * n)).map f = #[] := fun f => by rw [h0]; simp
    simp only [hr] at hfill
    simp only [Instr.buildSlice, Sem.run_bind, run_underlying hu, Result.andThen_ok, sizeS_run hs, if_neg hno, Sem.run_pure, if_pos h0, hr, hfill, newRow_run]
  · simp only [Instr.buildSlice, Sem.run_bind, run_underlying hu, Result.andThen_ok, sizeS_run hs, if_neg hno, Sem.run_pure, if_neg h0, hzr, hzc, hfill, newRow_run]
end Ev
end Go.Proofs.Ythhipnhnpjhaaaa
