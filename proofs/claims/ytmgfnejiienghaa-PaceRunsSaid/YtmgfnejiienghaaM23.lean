/- A checked evaluator: conversions, slices made, maps, types asserted. -/
import Derived.Test.YtmgfnejiienghaaM22
import Derived.Laws.MakeOwn
import Derived.Laws.StructEq
namespace Go.Proofs.Ytmgfnejiienghaa
open Go Go.RowKit
set_option linter.unusedVariables false
namespace Ev
variable {P : Program} {ρ : Env} {E : List (Nat × Nat)} {w0 : World} {φ : Nat → Nat} {st : Store} {w : World}

theorem byteEs_den : ∀ {cs : List SV} {l : List IE}, byteEs cs = some l → SV.denL ρ φ cs = (l.map (IE.den ρ)).map (Value.int .u8)
  | [], l, h => by cases h; rfl
  | v :: cs, l, h => by
    unfold byteEs at h
    split at h
    · rename_i h0; cases h0
    · rename_i e l' h0
      cases h0
      obtain ⟨m, hm, rfl⟩ := Option.map_eq_some_iff.1 h
      simp only [SV.denL, SV.den, List.map_cons, byteEs_den hm]
    · cases h
theorem push_bytes : ∀ (l : List Int) (r : ByteArray), l.foldl (fun r n => r.push (UInt8.ofNat n.toNat)) r = ⟨r.data ++ (l.map toB).toArray⟩
  | [], r => by simp
  | b :: l, r => by
    simp only [List.foldl_cons]
    rw [push_bytes l]
    simp [ByteArray.push, toB]
/-- bytes of a string, laid as a row -/
theorem convB_ok {X : Ctx} (hX : Knows ρ X) {id : Nat} {e : TypeId} {l : List IE} (hf : bytesFit X l = true) {u : Unit} {st' : Store} {r wl : List Loc} (h : newR id ⟨e, l.map (.int .u8 ·)⟩ st = .ok u st' r wl) (hr : RelS P ρ E w0 φ st w) {src dst : TypeId}
    (hs : P.underlying src = some .string) (hd : P.underlying dst = some (.slice e)) (he : P.underlying e = some (.int .u8)) :
    ∃ φ' w', Step P ρ E w0 φ st φ' st' w' ∧ (convert src dst (.string (bytesI (l.map (IE.den ρ))))).run P w = .ok ((SV.sl id 1 l.length 0).den ρ φ') w' := by
  obtain ⟨hid, hz, hcl, hrow, rfl⟩ := newR_ok h
  rw [run_bytes_of_string w src dst e _ hs hd he]
  let s := bytesI (l.map (IE.den ρ))
  have hsz : s.size = l.length := by simp [s, bytesI_eq, ByteArray.size_mk']
  have hlt := le_grownCap w s.size 0 e
  have hdrew : RelS P ρ E w0 φ st w.drew := hr.heap rfl rfl rfl rfl
  have hden : SV.denL ρ φ (l.map (.int .u8 ·)) = (s.data.map (fun b => Value.int .u8 b.toNat)).toList := by
    have := bytes_first (φ := φ) l hX hf l.length
    rw [bytesI_eq, ByteArray.extract_mk] at this
    have h2 := congrArg Array.toList this
    simp only [Array.toList_map, List.drop_zero, Nat.sub_zero, Nat.mul_one] at h2
    rw [List.take_of_length_le (by simp), List.take_of_length_le (by simp)] at h2
    simp only [s, bytesI_eq, Array.toList_map]
    exact h2.symm
  obtain ⟨φ', hstep, hnew, hcap⟩ := hdrew.newR id ⟨e, l.map (.int .u8 ·)⟩ (List.replicate (grownCap w s.size 0 e - s.size) (.int .u8 0)) ((bytesRow s (grownCap w s.size 0 e)).size, (bytesRow s (grownCap w s.size 0 e)).size + 1) hid hz hcl hrow
    (.inr (by simp [bytesRow, ← hsz]))
  have e1 : (SV.denL ρ φ (l.map (.int .u8 ·)) ++ List.replicate (grownCap w s.size 0 e - s.size) (Value.int .u8 0)).toArray = bytesRow s (grownCap w s.size 0 e) := by
    rw [hden]
    apply Array.ext'
    simp [bytesRow]
  have hstep' := hstep
  simp only at hstep'
  rw [e1] at hstep'
  refine ⟨φ', _, hstep', ?_⟩
  have hc : φ' (capK id) = grownCap w s.size 0 e := by rw [hcap]; simp only [List.length_map, List.length_replicate]; omega
  simp only [SV.den, hnew, hc, Nat.zero_mul, Nat.div_one, Nat.sub_zero]
  rw [← hsz]
  rfl
theorem strOf_ok {x v : SV} {st' : Store} {r wl : List Loc} (h : strOf x st = .ok v st' r wl) (hr : RelS P ρ E w0 φ st w) :
    st' = st ∧ ∃ a l c, x.den ρ φ = .slice a l c ∧ (Conv.bytesToString (.slice a l c)).run P w = .ok (v.den ρ φ) w := by
  unfold strOf at h
  split at h
  · obtain ⟨rfl, rfl, _, _⟩ := M.pure_ok h
    exact ⟨rfl, _, _, _, rfl, rfl⟩
  · unfold strRow at h
    cases hb : baseS x with
    | none => simp only [hb] at h; cases h
    | some q =>
      obtain ⟨b, off, len⟩ := q
      simp only [hb] at h
      obtain ⟨cs, s1, _, _, _, _, h1, h2, _, _⟩ := M.bind_ok h
      obtain ⟨rfl, B, hB, hrow, hl, rfl⟩ := rowS_ok h1
      cases hbe : byteEs ((B.cells.drop off).take len) with
      | none => simp only [hbe] at h2; cases h2
      | some l =>
        simp only [hbe] at h2
        obtain ⟨rfl, rfl, _, _⟩ := M.pure_ok h2
        obtain ⟨cap, hden⟩ := baseS_den (ρ := ρ) (φ := φ) hb
        have hcells := row_cells hr hB hrow hl (w1 := w) rfl
        have hld := run_loadCells_list (P := P) w ⟨φ b, off, none⟩ _ hcells
        rw [byteEs_den hbe] at hld
        simp only [List.length_map] at hld
        have hll : l.length = len := by
          have := congrArg List.length (byteEs_den (ρ := ρ) (φ := φ) hbe)
          simp [denL_map] at this; omega
        rw [hll] at hld
        refine ⟨rfl, _, _, _, hden, ?_⟩
        rw [run_bytesToString w _ len cap _ hld, push_bytes]
        have he0 : ByteArray.empty.data = #[] := rfl
        rw [he0]
        simp [SV.den, bytesI_eq]
theorem convS_ok {X : Ctx} (hX : Knows ρ X) {id : Nat} {src dst : TypeId} {x v : SV} {st' : Store} {r wl : List Loc} (h : convS P X id src dst x st = .ok v st' r wl) (hr : RelS P ρ E w0 φ st w) :
    ∃ φ' w', Step P ρ E w0 φ st φ' st' w' ∧ (convert src dst (x.den ρ φ)).run P w = .ok (v.den ρ φ') w' := by
  unfold convS at h
  cases hs : P.underlying src with
  | none => simp only [hs] at h; cases h
  | some ds =>
    cases hd : P.underlying dst with
    | none => simp only [hs, hd] at h; cases ds <;> cases h
    | some dd =>
      simp only [hs, hd] at h
      cases ds <;> cases dd <;> try (cases h; done)
      · -- string, string
        dsimp only at h
        cases hl : strB x with
        | none => simp only [hl] at h; cases h
        | some l =>
          simp only [hl] at h
          obtain ⟨rfl, rfl, _, _⟩ := M.pure_ok h
          refine ⟨φ, w, Step.refl hr, ?_⟩
          rw [strB_den hl]
          simp [convert, run_underlying hs, run_underlying hd]
      · -- string, slice
        rename_i e
        dsimp only at h
        cases he : P.underlying e with
        | none => simp only [he] at h; cases h
        | some de =>
          cases hl : strB x with
          | none =>
            simp only [he, hl] at h
            cases de <;> cases h
          | some l =>
            simp only [he, hl] at h
            cases de <;> try (cases h; done)
            rename_i k
            cases k <;> try (cases h; done)
            dsimp only at h
            split at h
            · rename_i hc
              simp only [Bool.and_eq_true] at hc
              obtain ⟨_, s1, _, _, _, _, h1, h2, _, _⟩ := M.bind_ok h
              obtain ⟨rfl, rfl, _, _⟩ := M.pure_ok h2
              rw [strB_den hl]
              exact convB_ok hX hc.1 h1 hr hs hd he
            · cases h
      · -- slice, string
        rename_i e
        dsimp only at h
        cases he : P.underlying e with
        | none => simp only [he] at h; cases h
        | some de =>
          simp only [he] at h
          cases de <;> try (cases h; done)
          rename_i k
          cases k <;> try (cases h; done)
          obtain ⟨rfl, e2⟩ := strOf_ok h hr
          refine ⟨φ, w, Step.refl hr, ?_⟩
          obtain ⟨a, l, c, e3⟩ := e2
          rw [e3.1, run_convert_bytes_string w src dst e _ _ _ hs he hd]
          exact e3.2
theorem makeSliceS_ok {id : Nat} {t : TypeId} {l c : Nat} {v : SV} {st' : Store} {r wl : List Loc} (h : makeSliceS P id t l c st = .ok v st' r wl) (hr : RelS P ρ E w0 φ st w) {kl kc : IntKind} :
    ∃ φ' w', Step P ρ E w0 φ st φ' st' w' ∧ (Instr.makeSlice t (.int kl l) (.int kc c)).run P w = .ok (v.den ρ φ') w' := by
  unfold makeSliceS at h
  cases ht : P.underlying t with
  | none => simp only [ht] at h; cases h
  | some d =>
    simp only [ht] at h
    cases d <;> try (cases h; done)
    rename_i elem
    dsimp only at h
    cases hs : sizeS P elem with
    | none => simp only [hs] at h; cases h
    | some n =>
      cases hz : zeroS P elem with
      | none => simp only [hs, hz] at h; cases h
      | some zs =>
        simp only [hs, hz] at h
        split at h
        · rename_i hc
          simp only [Bool.and_eq_true, Nat.beq_eq] at hc
          obtain ⟨⟨⟨hzl, hlc⟩, hsm⟩, hcn⟩ := hc
          have hlc := Nat.le_of_ble_eq_true hlc
          obtain ⟨_, s1, _, _, _, _, h1, h2, _, _⟩ := M.bind_ok h
          obtain ⟨hid, hz', hcl, hrow, rfl⟩ := newR_ok h1
          obtain ⟨rfl, rfl, _, _⟩ := M.pure_ok h2
          obtain ⟨i, z, hi, hin, hzz, hzn⟩ := info_of hs hz hzl
          obtain ⟨s2, s3⟩ := smallS_ok hi hsm
          obtain ⟨φ', hst, hnew, _⟩ := hr.new id ⟨elem, (List.replicate c zs).flatten⟩ hid hz' hcl hrow
          refine ⟨φ', _, hst, ?_⟩
          have hb' : (i.bytes : Int) * (c : Int) ≤ 281474976710656 := by
            have h : ((i.bytes * c : Nat) : Int) ≤ 281474976710656 := by rw [Nat.mul_comm]; omega
            rwa [Int.natCast_mul] at h
          have hrow2 := repl_get (SV.denL ρ φ zs) n (by rw [denL_length]; exact hzl) c
          have hzc : z.cells = (SV.denL ρ φ zs).toArray := by
            obtain ⟨z', hz1, hz2⟩ := zeroS_run (ρ := ρ) (φ := φ) hz w
            have : (zeroValue elem).run P w = .ok z w := by simp [zeroValue, typeInfo, hi, hzz]
            rw [this] at hz1
            cases hz1; exact hz2
          have hdenr : SV.denL ρ φ (List.replicate c zs).flatten = (List.replicate c (SV.denL ρ φ zs)).flatten := by simp [denL_map, List.map_flatten]
          subst hin
          have hrun := run_makeSlice (P := P) (w := w) t elem i z ht hi hzz kl kc l c (Int.natCast_nonneg _) (Int.ofNat_le.2 hlc) (by rw [Int.toNat_natCast]; exact Nat.le_of_ble_eq_true hcn) hb' (by omega)
          simp only [Int.toNat_natCast] at hrun
          rw [hrun]
          have hmade : madeCells z.cells (c * i.size) = (SV.denL ρ φ (List.replicate c zs).flatten).toArray := by
            rw [hdenr, ← hrow2, hzc]; rfl
          rw [hmade]
          simp only [SV.den, hnew]
        · cases h

/-! maps -/
theorem keyEq_ok {X : Ctx} (hX : Knows ρ X) {d : TypeDesc} {k e : SV} {c : BE} (h : keyEq X d k e = some c) : Instr.sameNow d (k.den ρ φ) (e.den ρ φ) = some (c.den ρ) := by
  unfold keyEq at h
  split at h
  · split at h
    · split at h
      · rename_i hjl
        subst hjl
        cases h
        simp only [SV.den, Instr.sameNow, if_true, mkCmp_den]; rfl
      · cases h
    · cases h
  · split at h
    · rename_i l m h1 h2
      rw [strB_den h1, strB_den h2]
      have hdec : Instr.sameNow .string (.string (bytesI (l.map (IE.den ρ)))) (.string (bytesI (m.map (IE.den ρ)))) = some ((bytesI (l.map (IE.den ρ))).toList == (bytesI (m.map (IE.den ρ))).toList) := by
        simp only [Instr.sameNow, beq_toListBytes]
      rw [hdec]
      split at h
      · rename_i hlen
        have hlen : l.length = m.length := by simpa using hlen
        split at h
        · rename_i hf
          simp only [Bool.and_eq_true] at hf
          cases h
          rw [str_eq hX hf.1 hf.2 hlen]
        · cases h
      · rename_i hlen
        have hlen : l.length ≠ m.length := by simpa using hlen
        cases h
        rw [str_ne hlen]; rfl
    · cases h
  · cases h
theorem sameNow_eq {d : TypeDesc} {a b : Value} (h : Instr.sameNow d a b = some true) : a = b := by
  unfold Instr.sameNow at h
  split at h
  · split at h
    · rename_i hk
      subst hk
      simp only [Option.some.injEq, beq_iff_eq] at h
      rw [h]
    · cases h
  · simp only [Option.some.injEq, beq_toListBytes, beq_iff_eq] at h
    rename_i x y
    cases x; cases y
    simp only [ByteArray.toList_eq] at h
    exact congrArg Value.string (by simpa using h)
  · simp only [Option.some.injEq, beq_iff_eq] at h
    rw [h]
  · cases h
theorem allKeys_ok {X : Ctx} (hX : Knows ρ X) {d : TypeDesc} {k : SV} : ∀ {l : List SV}, allKeys X d k l = true → ∀ p ∈ pairsOf (SV.denL ρ φ l), (Instr.sameNow d (k.den ρ φ) p.1).isSome
  | [], _, p, hp => by simp [SV.denL, pairsOf] at hp
  | [a], _, p, hp => by simp [SV.denL, pairsOf] at hp
  | a :: v :: l, h, p, hp => by
    simp only [allKeys, Bool.and_eq_true] at h
    simp only [SV.denL, pairsOf, List.mem_cons] at hp
    rcases hp with rfl | hp
    · obtain ⟨c, hc⟩ := Option.isSome_iff_exists.1 h.1
      rw [keyEq_ok (φ := φ) hX hc]; rfl
    · exact allKeys_ok hX h.2 p hp
theorem findS_ok {X : Ctx} (hX : Knows ρ X) {d : TypeDesc} {k : SV} : ∀ {l : List SV} {res : Option (Nat × SV)} {st st' : Store} {r wl : List Loc}, findS X d k l st = .ok res st' r wl →
      st' = st ∧ (res = none → ∀ p ∈ pairsOf (SV.denL ρ φ l), Instr.sameNow d (k.den ρ φ) p.1 = some false) ∧ (∀ q, res = some q → ∃ k', l[2 * q.1]? = some k' ∧ l[2 * q.1 + 1]? = some q.2 ∧ Instr.sameNow d (k.den ρ φ) (k'.den ρ φ) = some true)
  | [], res, st, st', r, wl, h => by
    unfold findS at h
    obtain ⟨rfl, rfl, _, _⟩ := M.pure_ok h
    exact ⟨rfl, fun _ p hp => by simp [SV.denL, pairsOf] at hp, fun q hq => by cases hq⟩
  | [a], res, st, st', r, wl, h => by
    unfold findS at h
    obtain ⟨rfl, rfl, _, _⟩ := M.pure_ok h
    exact ⟨rfl, fun _ p hp => by simp [SV.denL, pairsOf] at hp, fun q hq => by cases hq⟩
  | a :: v :: l, res, st, st', r, wl, h => by
    unfold findS at h
    cases hk : keyEq X d k a with
    | none => simp only [hk] at h; cases h
    | some c =>
      simp only [hk] at h
      have hsame := keyEq_ok (φ := φ) hX hk
      obtain ⟨t, s1, _, _, _, _, h1, h2, _, _⟩ := M.bind_ok h
      obtain ⟨hc, rfl⟩ := dec_ok hX h1
      rw [hc] at hsame
      cases t with
      | true =>
        simp only [if_true] at h2
        obtain ⟨rfl, rfl, _, _⟩ := M.pure_ok h2
        refine ⟨rfl, fun hn => (by cases hn), fun q hq => ?_⟩
        cases hq
        exact ⟨a, by simp, by simp, hsame⟩
      | false =>
        simp only [Bool.false_eq_true, if_false] at h2
        obtain ⟨res', s2, _, _, _, _, h3, h4, _, _⟩ := M.bind_ok h2
        obtain ⟨rfl, rfl, _, _⟩ := M.pure_ok h4
        obtain ⟨rfl, h5, h6⟩ := findS_ok hX h3
        refine ⟨rfl, fun hn p hp => ?_, fun q hq => ?_⟩
        · simp only [SV.denL, pairsOf, List.mem_cons] at hp
          rcases hp with rfl | hp
          · exact hsame
          · exact h5 (by cases res' with | none => rfl | some q => cases hn) p hp
        · cases res' with
          | none => cases hq
          | some q' =>
            simp only [Option.map_some, Option.some.injEq] at hq
            subst hq
            obtain ⟨k', h7, h8, h9⟩ := h6 q' rfl
            refine ⟨k', ?_, ?_, h9⟩
            · simp only [Nat.mul_add, Nat.mul_one]; rw [show 2 * q'.1 + 2 = 2 * q'.1 + 1 + 1 by omega]; simpa using h7
            · simp only [Nat.mul_add, Nat.mul_one]; rw [show 2 * q'.1 + 2 + 1 = (2 * q'.1 + 1) + 1 + 1 by omega]; simpa using h8
/-- a key that is not there; one that is there once -/
theorem findNow_none {d : TypeDesc} {k : Value} : ∀ {es : List MapEntry} (i : Nat), (∀ e ∈ es, Instr.sameNow d k e.key = some false) → Instr.findNow d k es i = some none
  | [], i, _ => rfl
  | e :: es, i, h => by
    unfold Instr.findNow
    rw [h e (by simp)]
    exact findNow_none (i + 1) (fun e' he => h e' (by simp [he]))
theorem findNow_some {d : TypeDesc} {k : Value} {v : Value} : ∀ {es : List MapEntry} (i : Nat), (∀ e ∈ es, (Instr.sameNow d k e.key).isSome) → (es.map (·.key)).Nodup → (∃ e ∈ es, e.key = k ∧ e.val = v) → Instr.sameNow d k k = some true →
    ∃ j, ∃ e : MapEntry, es[j]? = some e ∧ e.key = k ∧ e.val = v ∧ Instr.findNow d k es i = some (some (i + j, v))
  | [], i, _, _, he, _ => by obtain ⟨e, he, _⟩ := he; cases he
  | e :: es, i, h, hnd, he, hs => by
    simp only [List.map_cons, List.nodup_cons] at hnd
    obtain ⟨e1, he1, hk1, hv1⟩ := he
    by_cases hek : e.key = k
    · rcases List.mem_cons.1 he1 with rfl | he1
      · refine ⟨0, e1, rfl, hk1, hv1, ?_⟩
        unfold Instr.findNow
        rw [hk1, hs, hv1]; rfl
      · exact absurd (List.mem_map.2 ⟨e1, he1, by rw [hk1, hek]⟩) hnd.1
    · have hne : Instr.sameNow d k e.key = some false := by
        obtain ⟨b, hb⟩ := Option.isSome_iff_exists.1 (h e (by simp))
        cases b with
        | false => exact hb
        | true => exact absurd (sameNow_eq hb).symm hek
      rcases List.mem_cons.1 he1 with rfl | he1
      · exact absurd hk1 hek
      · obtain ⟨j, e2, h1, h2, h3, h4⟩ := findNow_some (v := v) (i + 1) (fun e' he' => h e' (by simp [he'])) hnd.2 ⟨e1, he1, hk1, hv1⟩ hs
        refine ⟨j + 1, e2, by simpa using h1, h2, h3, ?_⟩
        unfold Instr.findNow
        rw [hne]
        simp only [h4]
        rw [show i + 1 + j = i + (j + 1) by omega]
theorem mapKey_ok {t : TypeId} {d : TypeDesc} {e : TypeId} (h : mapKey P t = some (d, e)) : ∃ k, P.underlying t = some (.map k e) ∧ P.underlying k = some d := by
  unfold mapKey at h
  split at h
  · rename_i k e' hu
    obtain ⟨d', h1, h2⟩ := Option.map_eq_some_iff.1 h
    cases h2
    exact ⟨k, hu, h1⟩
  · cases h
theorem checkKey_run {d : TypeDesc} {kt : TypeId} {k : SV} {b : Bool} (hk : P.underlying kt = some d) (h : keyKind d k = true) (w : World) : (Instr.checkKey b 10000 kt (k.den ρ φ)).run P w = .ok () w := by
  have key : ∀ n, (Instr.checkKey b (n + 1) kt (k.den ρ φ)).run P w = .ok () w := by
    intro n
    unfold keyKind at h
    split at h
    · split at h
      · simp [Instr.checkKey, run_underlying hk, SV.den]
      · cases h
    · obtain ⟨l, hl⟩ := Option.isSome_iff_exists.1 h
      rw [strB_den hl]
      simp [Instr.checkKey, run_underlying hk]
    · cases h
  exact key 9999
theorem mapCells_ok {cs l : List SV} (h : mapCells cs = some l) : ∃ f p d, cs = .mark 0 f p d :: l := by
  unfold mapCells at h
  split at h
  · cases h; exact ⟨_, _, _, rfl⟩
  · cases h
theorem RelS.map (hr : RelS P ρ E w0 φ st w) {b : Nat} {B : Blk} {l : List SV} (hB : st.get b = some B) (hm : mapCells B.cells = some l) :
    ∃ es clock, w.heap[φ b]? = some (.map es clock) ∧ mapOk (SV.denL ρ φ l) es := by
  obtain ⟨o, h1, h2⟩ := hr.bl b B hB
  obtain ⟨f, p, d, hc⟩ := mapCells_ok hm
  unfold objOk at h2
  rw [hc] at h2
  obtain ⟨es, clock, rfl, h3⟩ := h2
  exact ⟨es, clock, h1, h3⟩
theorem findKey_run {d : TypeDesc} {kt : TypeId} {k : Value} {es : List MapEntry} {res : Option (Nat × Value)} (hk : P.underlying kt = some d) (h : Instr.findNow d k es 0 = some res) (w : World) : (Instr.findKey kt k es).run P w = .ok res w := by
  simp [Instr.findKey, run_underlying hk, h]
theorem getMap_run {r : Nat} {es : Array MapEntry} {clock : Nat} (hb : w.heap[r]? = some (.map es clock)) : (getObj r).run P w = .ok (.map es clock) w := by simp [getObj, Sem.run, hb]
theorem setMap_run {r : Nat} {es : Array MapEntry} {clock : Nat} (o : Obj) (hb : w.heap[r]? = some (.map es clock)) : (setObj r o).run P w = .ok () (w.putObj r o) := by simp [setObj, Sem.run, hb, World.putObj]
theorem pairsOf_app : ∀ (xs ys : List Value), xs.length % 2 = 0 → pairsOf (xs ++ ys) = pairsOf xs ++ pairsOf ys
  | [], ys, _ => rfl
  | [a], ys, h => by simp at h
  | a :: b :: xs, ys, h => by
    have := pairsOf_app xs ys (by simp at h; omega)
    simp [pairsOf, this]
theorem pairsOf_len : ∀ (xs : List Value), (pairsOf xs).length = xs.length / 2
  | [] => rfl
  | [a] => by simp [pairsOf]
  | a :: b :: xs => by
    have := pairsOf_len xs
    simp only [pairsOf, List.length_cons, this]; omega
theorem pairsOf_take : ∀ (xs : List Value) (n : Nat), (pairsOf xs).take n = pairsOf (xs.take (2 * n))
  | [], n => by simp [pairsOf]
  | [a], n => by
    cases n with
    | zero => rfl
    | succ n => rw [show 2 * (n + 1) = 2 * n + 1 + 1 by omega]; simp [pairsOf]
  | a :: b :: xs, 0 => by simp [pairsOf]
  | a :: b :: xs, n + 1 => by
    have := pairsOf_take xs n
    rw [show 2 * (n + 1) = 2 * n + 1 + 1 by omega]
    simp [pairsOf, this]
theorem pairsOf_drop : ∀ (xs : List Value) (n : Nat), (pairsOf xs).drop n = pairsOf (xs.drop (2 * n))
  | [], n => by simp [pairsOf]
  | [a], n => by
    cases n with
    | zero => rfl
    | succ n => rw [show 2 * (n + 1) = 2 * n + 1 + 1 by omega]; simp [pairsOf]
  | a :: b :: xs, 0 => by simp [pairsOf]
  | a :: b :: xs, n + 1 => by
    have := pairsOf_drop xs n
    rw [show 2 * (n + 1) = 2 * n + 1 + 1 by omega]
    simp [pairsOf, this]
theorem pairsOf_get : ∀ (xs : List Value) (i : Nat) (a b : Value), xs[2 * i]? = some a → xs[2 * i + 1]? = some b → (pairsOf xs)[i]? = some (a, b)
  | [], i, a, b, h, _ => by simp at h
  | [x], i, a, b, _, h => by simp at h
  | x :: y :: xs, 0, a, b, h, k => by simp at h k; simp [pairsOf, h, k]
  | x :: y :: xs, i + 1, a, b, h, k => by
    rw [show 2 * (i + 1) = 2 * i + 1 + 1 by omega] at h k
    simp only [List.getElem?_cons_succ] at h k
    simpa [pairsOf] using pairsOf_get xs i a b h k
theorem sameNow_refl {d : TypeDesc} {a b : Value} (h : Instr.sameNow d a b = some true) : Instr.sameNow d a a = some true := by
  have := sameNow_eq h
  subst this; exact h
theorem mapOk.find_some {X : Ctx} (hX : Knows ρ X) {d : TypeDesc} {k : SV} {l : List SV} {es : Array MapEntry} (hm : mapOk (SV.denL ρ φ l) es) (hak : allKeys X d k l = true) {q : Nat × SV} {k' : SV}
    (h1 : l[2 * q.1]? = some k') (h2 : l[2 * q.1 + 1]? = some q.2) (h3 : Instr.sameNow d (k.den ρ φ) (k'.den ρ φ) = some true) :
    ∃ j e, es[j]? = some e ∧ e.key = k.den ρ φ ∧ e.val = q.2.den ρ φ ∧ Instr.findNow d (k.den ρ φ) es.toList 0 = some (some (j, q.2.den ρ φ)) := by
  have hkk := sameNow_eq h3
  have hin : (k.den ρ φ, q.2.den ρ φ) ∈ pairsOf (SV.denL ρ φ l) := by
    have := pairsOf_get (SV.denL ρ φ l) q.1 (k'.den ρ φ) (q.2.den ρ φ) (by rw [denL_map, List.getElem?_map, h1]; rfl) (by rw [denL_map, List.getElem?_map, h2]; rfl)
    rw [hkk]
    exact List.mem_of_getElem? this
  obtain ⟨e, he, hee⟩ := List.mem_map.1 (hm.1.mem_iff.2 hin)
  simp only [Prod.mk.injEq] at hee
  obtain ⟨j, e2, h4, h5, h6, h7⟩ := findNow_some (d := d) (v := q.2.den ρ φ) (es := es.toList) 0 (fun e' he' => by
    have := hm.1.mem_iff.1 (List.mem_map.2 ⟨e', he', rfl⟩)
    exact allKeys_ok hX hak _ this) hm.2 ⟨e, he, hee⟩ (sameNow_refl h3)
  exact ⟨j, e2, by simpa using h4, h5, h6, by simpa using h7⟩
theorem mapOk.find_none {d : TypeDesc} {k : Value} {l : List Value} {es : Array MapEntry} (hm : mapOk l es) (h : ∀ p ∈ pairsOf l, Instr.sameNow d k p.1 = some false) : Instr.findNow d k es.toList 0 = some none :=
  findNow_none 0 fun e he => h _ (hm.1.mem_iff.1 (List.mem_map.2 ⟨e, he, rfl⟩))
theorem lookupS_ok {X : Ctx} (hX : Knows ρ X) {t : TypeId} {b : Nat} {k v : SV} {ok : Bool} {st' : Store} {r wl : List Loc} (h : lookupS P X t b k ok st = .ok v st' r wl) (hr : RelS P ρ E w0 φ st w) :
    st' = st ∧ (Instr.lookup t (.map (some (φ b))) (k.den ρ φ) ok).run P w = .ok (v.den ρ φ) w := by
  unfold lookupS at h
  cases hm : mapKey P t with
  | none => simp only [hm] at h; cases h
  | some q =>
    obtain ⟨d, e⟩ := q
    simp only [hm] at h
    obtain ⟨kt, hu, hk⟩ := mapKey_ok hm
    cases hz : (P.info? e).bind (·.zero) with
    | none => simp only [hz] at h; cases h
    | some z =>
      simp only [hz] at h
      split at h
      · rename_i hkk
        obtain ⟨B, s1, _, _, _, _, h1, h2, _, _⟩ := M.bind_ok h
        obtain ⟨hB, rfl⟩ := rdB_ok h1
        cases hl : mapCells B.cells with
        | none => simp only [hl] at h2; cases h2
        | some l =>
          simp only [hl] at h2
          split at h2
          · rename_i hak
            obtain ⟨res, s2, _, _, _, _, h3, h4, _, _⟩ := M.bind_ok h2
            obtain ⟨es, clock, hg, hes⟩ := hr.map hB hl
            obtain ⟨rfl, h5, h6⟩ := findS_ok (φ := φ) hX h3
            have hck := checkKey_run (ρ := ρ) (φ := φ) (b := es.isEmpty) hk hkk w
            have hzr : (zeroValue e).run P w = .ok z w := by
              obtain ⟨i, hi, hzi⟩ := Option.bind_eq_some_iff.1 hz
              simp [zeroValue, typeInfo, hi, hzi]
            cases res with
            | some q =>
              obtain ⟨rfl, rfl, _, _⟩ := M.pure_ok h4
              refine ⟨rfl, ?_⟩
              obtain ⟨k', h9, h10, h11⟩ := h6 q rfl
              obtain ⟨j, e', _, _, _, h12⟩ := hes.find_some hX hak h9 h10 h11
              have hfk := findKey_run hk h12 w
              simp only [Instr.lookup, Sem.run_bind, run_underlying hu, Result.andThen_ok, getMap_run hg, hck, hfk, Sem.run_pure]
              cases ok <;> simp [SV.den, SV.denL, BE.den]
            | none =>
              obtain ⟨rfl, rfl, _, _⟩ := M.pure_ok h4
              refine ⟨rfl, ?_⟩
              have hfk := findKey_run hk (hes.find_none (h5 rfl)) w
              simp only [Instr.lookup, Sem.run_bind, run_underlying hu, Result.andThen_ok, getMap_run hg, hck, hfk, Sem.run_pure, hzr]
              cases ok <;> simp [SV.den, SV.denL, BE.den, ofValue_den]
          · cases h2
      · cases h
theorem sameNow_bits {d : TypeDesc} {a b : Value} (h : Instr.sameNow d a b = some true) : Instr.sameBits 10000 b a = true := by
  have key : ∀ n, Instr.sameBits (n + 1) b a = true := by
    intro n
    unfold Instr.sameNow at h
    split at h
    · split at h
      · rename_i hk
        subst hk
        simp only [Option.some.injEq, beq_iff_eq] at h
        subst h
        simp [Instr.sameBits]
      · cases h
    · simp only [Option.some.injEq] at h
      rw [beq_toListBytes] at h
      simp only [Instr.sameBits, beq_toListBytes]
      rw [beq_iff_eq] at h ⊢
      exact h.symm
    · simp only [Option.some.injEq, beq_iff_eq] at h
      subst h
      simp [Instr.sameBits]
    · cases h
  exact key 9999
theorem modify_pairs (es : Array MapEntry) (i : Nat) (k v : Value) (hi : i < es.size) :
    (es.modify i fun e => { e with key := k, val := v }).toList.map (fun e => (e.key, e.val)) = (es.toList.map fun e => (e.key, e.val)).take i ++ [(k, v)] ++ (es.toList.map fun e => (e.key, e.val)).drop (i + 1) := by
  apply List.ext_getElem?
  intro j
  rw [List.getElem?_map, Array.getElem?_toList, Array.getElem?_modify]
  have hl : (es.toList.map fun e => (e.key, e.val)).length = es.size := by simp
  rw [List.append_assoc]
  by_cases hj : j < i
  · rw [List.getElem?_append_left (by simp; omega), List.getElem?_take, if_pos hj, if_neg (by omega)]
    simp
  · rw [List.getElem?_append_right (by simp; omega)]
    have e1 : ((es.toList.map fun e => (e.key, e.val)).take i).length = i := by simp; omega
    rw [e1]
    by_cases hji : j = i
    · subst hji
      simp [hi]
    · rw [if_neg (by omega)]
      have : j - i = (j - i - 1) + 1 := by omega
      rw [this]
      simp only [List.singleton_append, List.getElem?_cons_succ, List.getElem?_drop]
      rw [show i + 1 + (j - i - 1) = j by omega]
      simp
theorem perm_swap_one {α : Type} {A B C D : List α} {x y : α} (h : (A ++ x :: B).Perm (C ++ x :: D)) : (A ++ y :: B).Perm (C ++ y :: D) := by
  have h1 : (x :: (A ++ B)).Perm (x :: (C ++ D)) := (List.perm_middle.symm.trans h).trans List.perm_middle
  exact (List.perm_middle.trans (List.Perm.cons y h1.cons_inv)).trans List.perm_middle.symm
theorem pairs_keys (es : List MapEntry) : es.map (·.key) = (es.map fun e => (e.key, e.val)).map Prod.fst := by simp
/-- a map with a thing more -/
theorem mapOk.push {l : List Value} {es : Array MapEntry} {k v : Value} {l' : List Value} {c : Nat} (hm : mapOk l es) (hp : (pairsOf l').Perm ((k, v) :: pairsOf l)) (hk : ∀ p ∈ pairsOf l, p.1 ≠ k) : mapOk l' (es.push { key := k, val := v, born := c }) := by
  refine ⟨?_, ?_⟩
  · rw [Array.toList_push, List.map_append]
    refine List.Perm.trans ?_ hp.symm
    exact (List.perm_append_comm).trans (List.Perm.cons _ hm.1)
  · rw [Array.toList_push, List.map_append, List.nodup_append]
    refine ⟨hm.2, by simp, fun a ha b hb => ?_⟩
    simp only [List.map_cons, List.map_nil, List.mem_cons, List.not_mem_nil, or_false] at hb
    subst hb
    obtain ⟨e, he, rfl⟩ := List.mem_map.1 ha
    exact hk _ (hm.1.mem_iff.1 (List.mem_map.2 ⟨e, he, rfl⟩))
theorem insLit_pairs {ρ : Env} {φ : Nat → Nat} {n : Int} {k v : SV} : ∀ (l : List SV), l.length % 2 = 0 → (pairsOf (SV.denL ρ φ (insLit n k v l))).Perm ((k.den ρ φ, v.den ρ φ) :: pairsOf (SV.denL ρ φ l))
  | [], _ => by simp [insLit, SV.denL, pairsOf]
  | [a], h => by simp at h
  | e :: w :: l, h => by
    unfold insLit
    split
    · simp only [SV.denL, pairsOf]
      exact (List.Perm.cons _ (insLit_pairs l (by simp at h; omega))).trans (List.Perm.swap _ _ _)
    · simp only [SV.denL, pairsOf]; exact List.Perm.refl _
theorem insLit_mem {n : Int} {k v x : SV} : ∀ {l : List SV}, x ∈ insLit n k v l → x = k ∨ x = v ∨ x ∈ l
  | [], h => by simp only [insLit, List.mem_cons, List.not_mem_nil, or_false] at h; rcases h with h | h <;> simp [h]
  | [a], h => by simp only [insLit, List.mem_cons, List.not_mem_nil, or_false] at h; rcases h with h | h | h <;> simp [h]
  | e :: w :: l, h => by
    unfold insLit at h
    split at h
    · simp only [List.mem_cons] at h
      rcases h with h | h | h
      · simp [h]
      · simp [h]
      · rcases insLit_mem h with h | h | h <;> simp [h]
    · simp only [List.mem_cons] at h
      rcases h with h | h | h | h | h <;> simp [h]
theorem litFresh_ok {X : Ctx} (hX : Knows ρ X) {d : TypeDesc} {k : SV} {n : Int} (hk : litKey k = some n) : ∀ {l : List SV}, allKeys X d k l = true → litFresh n l = true → keyKind d k = true → ∀ p ∈ pairsOf (SV.denL ρ φ l), Instr.sameNow d (k.den ρ φ) p.1 = some false
  | [], _, _, _, p, hp => by simp [SV.denL, pairsOf] at hp
  | [a], _, _, _, p, hp => by simp [SV.denL, pairsOf] at hp
  | a :: v :: l, h, hf, hkk, p, hp => by
    simp only [allKeys, Bool.and_eq_true] at h
    simp only [litFresh, Bool.and_eq_true] at hf
    simp only [SV.denL, pairsOf, List.mem_cons] at hp
    rcases hp with rfl | hp
    · obtain ⟨c, hc⟩ := Option.isSome_iff_exists.1 h.1
      have e := keyEq_ok (φ := φ) hX hc
      rw [e]
      have hf1 := hf.1
      unfold neKey at hf1
      cases ha : litKey a with
      | none => rw [ha] at hf1; cases hf1
      | some m =>
        rw [ha] at hf1
        unfold litKey at hk ha
        split at hk <;> cases hk
        split at ha <;> cases ha
        unfold keyKind at hkk
        split at hkk
        · simp only [keyEq] at hc
          split at hc
          · cases hc
            simp only [mkCmp_den, cmpI, IE.den]
            simp at hf1
            simp
            exact fun e => hf1 e.symm
          · cases hc
        · simp [strB] at hkk
        · cases hkk
    · exact litFresh_ok hX hk h.2 hf.2 hkk p hp
theorem sameNow_self {d : TypeDesc} {k : SV} (hkk : keyKind d k = true) : Instr.sameNow d (k.den ρ φ) (k.den ρ φ) = some true := by
  unfold keyKind at hkk
  split at hkk
  · split at hkk
    · simp [SV.den, Instr.sameNow]
    · cases hkk
  · obtain ⟨l, hl⟩ := Option.isSome_iff_exists.1 hkk
    rw [strB_den hl]
    simp [Instr.sameNow, beq_toListBytes]
  · cases hkk
theorem ne_of_false {d : TypeDesc} {k : SV} (hkk : keyKind d k = true) {l : List Value} (h : ∀ p ∈ pairsOf l, Instr.sameNow d (k.den ρ φ) p.1 = some false) : ∀ p ∈ pairsOf l, p.1 ≠ k.den ρ φ := fun p hp e => by
  have h1 := h p hp
  rw [e, sameNow_self hkk] at h1
  cases h1
theorem insertS_ok {X : Ctx} (hX : Knows ρ X) {t : TypeId} {b : Nat} {k v x : SV} {st' : Store} {r wl : List Loc} (h : insertS P X t b k v st = .ok x st' r wl) (hr : RelS P ρ E w0 φ st w) :
    x = .raw undef ∧ ∃ w', Step P ρ E w0 φ st φ st' w' ∧ (Instr.mapUpdate t (.map (some (φ b))) (k.den ρ φ) (v.den ρ φ)).run P w = .ok () w' := by
  unfold insertS at h
  cases hm : mapKey P t with
  | none => simp only [hm] at h; cases h
  | some q =>
    obtain ⟨d, e⟩ := q
    simp only [hm] at h
    obtain ⟨kt, hu, hk⟩ := mapKey_ok hm
    split at h
    · rename_i hkk
      obtain ⟨B, s1, _, _, _, _, h1, h2, _, _⟩ := M.bind_ok h
      obtain ⟨hB, rfl⟩ := rdB_ok h1
      cases hl : mapCells B.cells with
      | none => simp only [hl] at h2; cases h2
      | some l =>
        simp only [hl] at h2
        split at h2
        · rename_i hev
          simp only [Bool.and_eq_true, Nat.beq_eq] at hev
          obtain ⟨hev, hak⟩ := hev
          obtain ⟨es, clock, hg, hes⟩ := hr.map hB hl
          obtain ⟨f, p, dd, hcs⟩ := mapCells_ok hl
          have hck := checkKey_run (ρ := ρ) (φ := φ) (b := false) hk hkk w
          have hno : ∀ c ty fr, Obj.map es clock ≠ .cells c ty fr := fun _ _ _ => by simp
          have hne : B.cells ≠ [] := by rw [hcs]; simp
          have hbc : ∀ l', SV.idsL (B.cells.take 1 ++ l') = dd :: SV.idsL l' := fun l' => by rw [hcs]; simp [SV.idsL, SV.ids]
          have hdd : (s1.get dd).isSome := hr.cl b B hB dd (by rw [hcs]; simp [SV.idsL, SV.ids])
          have hold : ∀ c ∈ SV.idsL l, (s1.get c).isSome := fun c hc => hr.cl b B hB c (by rw [hcs]; simp [SV.idsL, hc])
          -- a thing more
          have more : ∀ l', (pairsOf (SV.denL ρ φ l')).Perm ((k.den ρ φ, v.den ρ φ) :: pairsOf (SV.denL ρ φ l)) → (∀ x ∈ l', x = k ∨ x = v ∨ x ∈ l) → (∀ c ∈ SV.idsL [k, v], (s1.get c).isSome) → (∀ p ∈ pairsOf (SV.denL ρ φ l), Instr.sameNow d (k.den ρ φ) p.1 = some false) →
              ∃ w', Step P ρ E w0 φ s1 φ (s1.set b { B with cells := B.cells.take 1 ++ l' }) w' ∧ (Instr.mapUpdate t (.map (some (φ b))) (k.den ρ φ) (v.den ρ φ)).run P w = .ok () w' := by
            intro l' hp hmem hcl hno1
            refine ⟨_, hr.putO b B _ (.map es clock) (.map (es.push { key := k.den ρ φ, val := v.den ρ φ, born := clock }) (clock + 1)) hB hne hg hno (fun c hc => ?_) ?_, ?_⟩
            · rw [hbc] at hc
              rcases List.mem_cons.1 hc with rfl | hc
              · exact hdd
              · obtain ⟨y, hy, hcy⟩ := mem_idsL.1 hc
                rcases hmem y hy with rfl | rfl | hy
                · exact hcl c (mem_idsL.2 ⟨y, by simp, hcy⟩)
                · exact hcl c (mem_idsL.2 ⟨y, by simp, hcy⟩)
                · exact hold c (mem_idsL.2 ⟨y, hy, hcy⟩)
            · unfold objOk
              rw [hcs]
              simp only [List.take_succ_cons, List.take_zero, List.cons_append, List.nil_append]
              show ∃ es' clock', _ ∧ _
              exact ⟨_, _, rfl, hes.push hp (ne_of_false hkk hno1)⟩
            · have hfk := findKey_run hk (hes.find_none hno1) w
              simp only [Instr.mapUpdate, Sem.run_bind, run_underlying hu, Result.andThen_ok, getMap_run hg, hck, hfk]
              exact setMap_run _ hg
          cases hfr : freshLit k l with
          | some n =>
            simp only [hfr] at h2
            unfold insFresh at h2
            obtain ⟨_, s2, _, _, _, _, h3, h4, _, _⟩ := M.bind_ok h2
            cases h3
            obtain ⟨_, s3, _, _, _, _, h7, h8, _, _⟩ := M.bind_ok h4
            obtain ⟨rfl, hcl⟩ := chk_ok h7
            obtain ⟨_, s4, _, _, _, _, h12, h13, _, _⟩ := M.bind_ok h8
            obtain rfl := wrB_ok h12
            obtain ⟨rfl, rfl, _, _⟩ := M.pure_ok h13
            unfold freshLit at hfr
            cases hlk : litKey k with
            | none => rw [hlk] at hfr; cases hfr
            | some m =>
              rw [hlk] at hfr
              simp only at hfr
              split at hfr <;> cases hfr
              rename_i hfr
              exact ⟨rfl, more _ (insLit_pairs l hev) (fun x hx => insLit_mem hx) hcl (litFresh_ok hX hlk hak hfr hkk)⟩
          | none =>
            simp only [hfr] at h2
            unfold insAny at h2
            obtain ⟨res, s2, _, _, _, _, h3, h4, _, _⟩ := M.bind_ok h2
            obtain ⟨rfl, h5, h6⟩ := findS_ok (φ := φ) hX h3
            obtain ⟨_, s3, _, _, _, _, h7, h8, _, _⟩ := M.bind_ok h4
            obtain ⟨rfl, hcl⟩ := chk_ok h7
            cases res with
            | some q =>
              obtain ⟨k', h9, h10, h11⟩ := h6 q rfl
              obtain ⟨_, s4, _, _, _, _, h12, h13, _, _⟩ := M.bind_ok h8
              obtain rfl := wrB_ok h12
              obtain ⟨rfl, rfl, _, _⟩ := M.pure_ok h13
              obtain ⟨j, e', he1, he2, he3, he4⟩ := hes.find_some hX hak h9 h10 h11
              have hfk := findKey_run hk he4 w
              have hj : j < es.size := (Array.getElem?_eq_some_iff.1 he1).1
              refine ⟨rfl, _, hr.putO b B _ (.map es clock) (.map (es.modify j fun e => { e with key := k.den ρ φ, val := v.den ρ φ }) clock) hB hne hg hno (fun c hc => ?_) ?_, ?_⟩
              · rw [List.append_assoc, List.append_assoc, hbc] at hc
                rcases List.mem_cons.1 hc with rfl | hc
                · exact hdd
                · obtain ⟨y, hy, hcy⟩ := mem_idsL.1 hc
                  simp only [List.mem_append] at hy
                  rcases hy with hy | hy | hy
                  · exact hold c (mem_idsL.2 ⟨y, List.mem_of_mem_take hy, hcy⟩)
                  · exact hcl c (mem_idsL.2 ⟨y, hy, hcy⟩)
                  · exact hold c (mem_idsL.2 ⟨y, List.mem_of_mem_drop hy, hcy⟩)
              · unfold objOk
                rw [hcs]
                simp only [List.take_succ_cons, List.take_zero, List.cons_append, List.nil_append]
                show ∃ es' clock', _ ∧ _
                have h2q : 2 * q.1 + 1 < l.length := (List.getElem?_eq_some_iff.1 h10).1
                have hA : SV.denL ρ φ (l.take (2 * q.1) ++ [k, v] ++ l.drop (2 * q.1 + 2)) = (SV.denL ρ φ l).take (2 * q.1) ++ (k.den ρ φ :: v.den ρ φ :: (SV.denL ρ φ l).drop (2 * q.1 + 2)) := by
                  simp [denL_map, List.map_take, List.map_drop]
                have hB2 : SV.denL ρ φ l = (SV.denL ρ φ l).take (2 * q.1) ++ (k'.den ρ φ :: q.2.den ρ φ :: (SV.denL ρ φ l).drop (2 * q.1 + 2)) := by
                  have g1 : (SV.denL ρ φ l)[2 * q.1]? = some (k'.den ρ φ) := by rw [denL_map, List.getElem?_map, h9]; rfl
                  have g2 : (SV.denL ρ φ l)[2 * q.1 + 1]? = some (q.2.den ρ φ) := by rw [denL_map, List.getElem?_map, h10]; rfl
                  obtain ⟨l1, g3⟩ := List.getElem?_eq_some_iff.1 g1
                  obtain ⟨l2, g4⟩ := List.getElem?_eq_some_iff.1 g2
                  conv => lhs; rw [← List.take_append_drop (2 * q.1) (SV.denL ρ φ l)]
                  rw [List.drop_eq_getElem_cons l1, g3, List.drop_eq_getElem_cons l2, g4]
                have hlen : ((SV.denL ρ φ l).take (2 * q.1)).length % 2 = 0 := by rw [List.length_take, denL_length]; omega
                have hkk' := sameNow_eq h11
                have hold2 : (es.toList.map fun e => (e.key, e.val)) = (es.toList.map fun e => (e.key, e.val)).take j ++ (k.den ρ φ, q.2.den ρ φ) :: (es.toList.map fun e => (e.key, e.val)).drop (j + 1) := by
                  have g1 : (es.toList.map fun e => (e.key, e.val))[j]? = some (k.den ρ φ, q.2.den ρ φ) := by
                    rw [List.getElem?_map, Array.getElem?_toList, he1]; simp [he2, he3]
                  obtain ⟨l1, g3⟩ := List.getElem?_eq_some_iff.1 g1
                  conv => lhs; rw [← List.take_append_drop j (es.toList.map fun e => (e.key, e.val))]
                  rw [List.drop_eq_getElem_cons l1, g3]
                refine ⟨_, _, rfl, ?_, ?_⟩
                · rw [modify_pairs _ _ _ _ hj, hA, pairsOf_app _ _ hlen]
                  have hP := hes.1
                  rw [hold2, hB2, pairsOf_app _ _ hlen] at hP
                  simp only [pairsOf, List.append_assoc, List.singleton_append] at hP ⊢
                  rw [← hkk'] at hP
                  exact perm_swap_one hP
                · have : (es.modify j fun e => { e with key := k.den ρ φ, val := v.den ρ φ }).toList.map (·.key) = es.toList.map (·.key) := by
                    rw [pairs_keys, modify_pairs _ _ _ _ hj, pairs_keys es.toList]
                    conv => rhs; rw [hold2]
                    simp
                  rw [this]; exact hes.2
              · have hget : (es[j]?).map (·.key) = some (k.den ρ φ) := by rw [he1]; simp [he2]
                simp only [Instr.mapUpdate, Sem.run_bind, run_underlying hu, Result.andThen_ok, getMap_run hg, hck, hfk, hget, Option.getD_some, Instr.keyThatStays, sameNow_bits (sameNow_refl h11), if_true, Sem.run_pure]
                exact setMap_run _ hg
            | none =>
              obtain ⟨_, s4, _, _, _, _, h12, h13, _, _⟩ := M.bind_ok h8
              obtain rfl := wrB_ok h12
              obtain ⟨rfl, rfl, _, _⟩ := M.pure_ok h13
              rw [List.append_assoc]
              refine ⟨rfl, more (l ++ [k, v]) ?_ (fun x hx => ?_) hcl (h5 rfl)⟩
              · rw [denL_append, pairsOf_app _ _ (by simp [denL_map]; omega)]
                exact List.perm_append_comm
              · simp only [List.mem_append, List.mem_cons, List.not_mem_nil, or_false] at hx
                rcases hx with hx | hx | hx <;> simp [hx]
        · cases h2
    · cases h
theorem zero_run {t : TypeId} {z : Value} (h : (P.info? t).bind (·.zero) = some z) (w : World) : (zeroValue t).run P w = .ok z w := by
  obtain ⟨i, hi, hzi⟩ := Option.bind_eq_some_iff.1 h
  simp [zeroValue, typeInfo, hi, hzi]
theorem typeAssertS_ok {at_ xt : TypeId} {ok : Bool} {x v : SV} (h : typeAssertS P at_ ok x = some v) (w : World) : (Instr.typeAssert (x.den ρ φ) xt at_ ok).run P w = .ok (v.den ρ φ) w := by
  unfold typeAssertS at h
  cases hu : P.underlying at_ with
  | none => simp [hu] at h
  | some d =>
    cases hz : (P.info? at_).bind (·.zero) with
    | none => cases d <;> simp [hu, hz] at h
    | some z =>
      have hzr := zero_run hz w
      have key : assertS z at_ ok x = some v ∧ ∀ m, d ≠ .interface m := by
        cases d <;> simp only [hu, hz] at h <;> first | exact ⟨h, by simp⟩ | (cases h; done)
      clear h
      obtain ⟨h, hni⟩ := key
      cases x with
      | iface t u =>
        simp only [assertS] at h
        split at h
        · rename_i ht
          have ht : t = at_ := by simpa using ht
          subst ht
          cases h
          cases d <;> first | exact absurd rfl (hni _) | (cases ok <;> simp [Instr.typeAssert, run_underlying hu, SV.den, SV.denL, holdsS, BE.den])
        · rename_i ht
          have ht : t ≠ at_ := by simpa using ht
          split at h
          · rename_i hok
            subst hok
            cases h
            cases d <;> first | exact absurd rfl (hni _) | simp [Instr.typeAssert, run_underlying hu, SV.den, SV.denL, BE.den, ht, hzr, ofValue_den]
          · cases h
      | raw u =>
        cases u with
        | nilIface =>
          simp only [assertS] at h
          split at h
          · rename_i hok
            subst hok
            cases h
            cases d <;> first | exact absurd rfl (hni _) | simp [Instr.typeAssert, run_underlying hu, SV.den, SV.denL, BE.den, hzr, ofValue_den]
          · cases h
        | _ => cases h
      | _ => cases h
end Ev
end Go.Proofs.Ytmgfnejiienghaa
