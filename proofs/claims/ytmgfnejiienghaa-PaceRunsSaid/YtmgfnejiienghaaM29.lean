/- The caller's slices, as they come in: of things whose cells are whole numbers and bools. -/
import Derived.Test.YtmgfnejiienghaaM28
import Derived.Test.YtmgfnejiienghaaRows
import Derived.ChangeSlices
import Derived.SizedLaws
namespace Go.Proofs.Ytmgfnejiienghaa
open Go Go.RowKit
set_option linter.unusedVariables false
namespace Ev

def EKTyped : EK → Value → Prop
  | .int k, v => ∃ n, v = .int k n ∧ k.min ≤ n ∧ n ≤ k.max
  | .bool, v => ∃ b, v = .bool b
def flatF (P : Program) (g : TypeId → Option (List EK)) : List Field → Nat → Option (List EK)
  | [], _ => some []
  | f :: fs, off =>
    match g f.type with
    | some ks => if f.offset = off ∧ P.cellsOf f.type = ks.length then (flatF P g fs (off + ks.length)).map (ks ++ ·) else none
    | none => none
/-- the kinds of a thing's cells -/
def flatKs (P : Program) : Nat → TypeId → Option (List EK)
  | 0, _ => none
  | m + 1, t =>
    match P.underlying t with
    | some .bool => some [.bool]
    | some (.int k) => some [.int k]
    | some (.struct fs) => flatF P (flatKs P m) fs.toList 0
    | _ => none
theorem mapM_each {α β : Type} {f : α → Option β} : ∀ {l : List α} {r : List β}, l.mapM f = some r → ∀ a ∈ l, ∃ b, f a = some b
  | [], r, h, a, ha => by cases ha
  | x :: l, r, h, a, ha => by
    rw [List.mapM_cons] at h
    cases hx : f x with
    | none => rw [hx] at h; cases h
    | some b =>
      rw [hx] at h
      cases hl : l.mapM f with
      | none => simp [hl] at h
      | some r' =>
        rcases List.mem_cons.1 ha with rfl | ha
        · exact ⟨b, hx⟩
        · exact mapM_each hl a ha
variable {H : Type} {enc : TypeId × Value → H} {P : Program} {W : World} {base : Nat} {spare : Nat → Bool} {held : Bool}
theorem flatF_ok {g : TypeId → Option (List EK)} {n : Nat} {cs : List Value} (hg : ∀ t ks cs y, g t = some ks → DataW.trod enc P W base spare held n t cs = some y → ∀ (c : Nat) k, ks[c]? = some k → ∃ v, cs[c]? = some v ∧ EKTyped k v) :
    ∀ (fs : List Field) (off : Nat) (ks : List EK), flatF P g fs off = some ks → (∀ f ∈ fs, ∃ y, DataW.trod enc P W base spare held n f.type ((cs.drop f.offset).take (P.cellsOf f.type)) = some y) → ∀ (c : Nat) k, ks[c]? = some k → ∃ v, cs[off + c]? = some v ∧ EKTyped k v
  | [], off, ks, h, _, c, k, hk => by simp only [flatF, Option.some.injEq] at h; subst h; simp at hk
  | f :: fs, off, ks, h, hall, c, k, hk => by
    simp only [flatF] at h
    cases hf : g f.type with
    | none => simp [hf] at h
    | some k1 =>
      simp only [hf] at h
      split at h
      · rename_i hc
        obtain ⟨rfl, h2⟩ := hc
        obtain ⟨k2, h3, rfl⟩ := Option.map_eq_some_iff.1 h
        by_cases hlt : c < k1.length
        · rw [List.getElem?_append_left hlt] at hk
          obtain ⟨y, hy⟩ := hall f (by simp)
          obtain ⟨v, hv, ht⟩ := hg _ _ _ _ hf hy c k hk
          refine ⟨v, ?_, ht⟩
          rw [h2, List.getElem?_take_of_lt hlt, List.getElem?_drop] at hv
          exact hv
        · rw [List.getElem?_append_right (by omega)] at hk
          obtain ⟨v, hv, ht⟩ := flatF_ok hg fs _ _ h3 (fun f' hf' => hall f' (by simp [hf'])) (c - k1.length) k hk
          refine ⟨v, ?_, ht⟩
          rw [show f.offset + k1.length + (c - k1.length) = f.offset + c by omega] at hv
          exact hv
      · cases h
theorem flat_ok : ∀ (m : Nat) (t : TypeId) (ks : List EK) (n : Nat) (cs : List Value) (y : DataW H × List MemPlace), flatKs P m t = some ks → DataW.trod enc P W base spare held n t cs = some y → ∀ (c : Nat) k, ks[c]? = some k → ∃ v, cs[c]? = some v ∧ EKTyped k v
  | 0, t, ks, n, cs, y, h, _, c, k, hk => by simp [flatKs] at h
  | m + 1, t, ks, n, cs, y, h, hy, c, k, hk => by
    cases n with
    | zero => simp [DataW.trod] at hy
    | succ n =>
      simp only [flatKs] at h
      split at h
      · rename_i hu
        cases h
        obtain rfl : c = 0 := by have := (List.getElem?_eq_some_iff.1 hk).1; simp at this; exact this
        simp at hk; subst hk
        unfold DataW.trod at hy
        simp only [hu] at hy
        split at hy <;> simp_all [EKTyped]
      · rename_i kk hu
        cases h
        obtain rfl : c = 0 := by have := (List.getElem?_eq_some_iff.1 hk).1; simp at this; exact this
        simp at hk; subst hk
        unfold DataW.trod at hy
        simp only [hu] at hy
        split at hy <;> simp_all [EKTyped]
        simpa [Lit.wf] using hy.1.2
      · rename_i fs hu
        unfold DataW.trod at hy
        simp only [hu] at hy
        split at hy
        · obtain ⟨xs, h1, _⟩ := Option.map_eq_some_iff.1 hy
          have := flatF_ok (cs := cs) (fun t ks cs y h1 h2 => flat_ok m t ks n cs y h1 h2) fs.toList 0 ks h (mapM_each h1) c k hk
          simpa using this
        · cases hy
      · cases h
/-- what a slice of things holds, as it came in -/
def IsXs (ks : List EK) (W : World) (v : Value) : Prop :=
  (∃ a cap, v = .slice a 0 cap) ∨
  ∃ (b off len cap : Nat) (c : Array Value) (ty : TypeId) (fr : Nat × Nat), v = .slice (some ⟨b, off, none⟩) len cap ∧ 0 < len ∧ len ≤ maxLen ∧ W.heap[b]? = some (.cells c ty fr) ∧ ∀ i j k, i < len → ks[j]? = some k → ∃ u, c[off + (i * ks.length + j)]? = some u ∧ EKTyped k u
theorem mapM_range {β : Type} {f : Nat → Option β} {n : Nat} {r : List β} (h : (List.range n).mapM f = some r) : ∀ i, i < n → ∃ b, f i = some b := fun i hi => mapM_each h i (List.mem_range.2 hi)
theorem mapM_get {α β : Type} {f : α → Option β} : ∀ {l : List α} {r : List β}, l.mapM f = some r → ∀ (i : Nat) a, l[i]? = some a → ∃ b, f a = some b ∧ r[i]? = some b
  | [], r, h, i, a, ha => by simp at ha
  | x :: l, r, h, i, a, ha => by
    rw [List.mapM_cons] at h
    cases hx : f x with
    | none => rw [hx] at h; cases h
    | some b =>
      rw [hx] at h
      cases hl : l.mapM f with
      | none => simp [hl] at h
      | some r' =>
        simp [hl] at h
        subst h
        cases i with
        | zero => simp at ha; subst ha; exact ⟨b, hx, by simp⟩
        | succ i => simpa using mapM_get hl i a (by simpa using ha)
theorem open_xs {t e : TypeId} {ks : List EK} {m fuel : Nat} {v : Value} {x : DataW H × List MemPlace} (ht : P.underlying t = some (.slice e)) (hks : flatKs P m e = some ks) (hc : P.cellsOf e = ks.length) (h0 : ks ≠ []) (hv : ∃ a len cap, v = .slice a len cap) (h : DataW.trod enc P W base spare held fuel t v.cells.toList = some x) : IsXs ks W v := by
  obtain ⟨a0, len0, cap0, rfl⟩ := hv
  have hcs : (Value.slice a0 len0 cap0).cells.toList = [.slice a0 len0 cap0] := rfl
  rw [hcs] at h
  rcases DataW.trod_slice ht h with ⟨h1, _⟩ | ⟨a, len, cap, elems, rest, n, _, h1, _, hb, hl, hm, hlen, hel, _, _⟩
  · simp at h1
    obtain ⟨rfl, rfl, rfl⟩ := h1
    exact .inl ⟨_, _, rfl⟩
  · simp at h1
    obtain ⟨rfl, rfl, rfl⟩ := h1
    by_cases hz : len0 = 0
    · subst hz; exact .inl ⟨_, _, rfl⟩
    · right
      have each : ∀ i, i < len0 → ∀ (j : Nat) k, ks[j]? = some k → ∃ u, W.cell? (a.add (i * ks.length + j)) = some u ∧ EKTyped k u := by
        intro i hi j k hk
        have hj := (List.getElem?_eq_some_iff.1 hk).1
        have he := hel i hi
        rw [List.getElem?_eq_getElem (by omega)] at he
        obtain ⟨cs, h2, h3⟩ := Option.bind_eq_some_iff.1 he
        obtain ⟨u, hu, htu⟩ := flat_ok m e ks n cs _ hks h3 j k hk
        refine ⟨u, ?_, htu⟩
        unfold World.cells? at h2
        split at h2
        · obtain ⟨b, h4, h5⟩ := mapM_get h2 j j (by rw [List.getElem?_range (by omega)])
          rw [h5] at hu
          cases hu
          rw [hc] at h4
          have : (a.add (i * ks.length)).add j = a.add (i * ks.length + j) := by
            unfold Addr.add
            by_cases c1 : i * ks.length = 0
            · rw [if_pos c1, c1, Nat.zero_add]
            · by_cases c2 : j = 0
              · rw [if_pos c2, if_neg c1, if_neg (by omega), c2]; rfl
              · rw [if_neg c2, if_neg c1, if_neg (by omega)]
                simp only [Addr.mk.injEq, true_and, and_true]
                omega
          rw [this] at h4
          exact h4
        · cases h2
      have hpos : 0 < ks.length := List.length_pos_iff.2 h0
      obtain ⟨u0, hu0, _⟩ := each 0 (by omega) 0 ks[0] (List.getElem?_eq_getElem hpos)
      have ha0 : a.add (0 * ks.length + 0) = a := by unfold Addr.add; simp
      rw [ha0] at hu0
      unfold World.cell? at hu0
      split at hu0
      · rename_i c ty fr hblk
        split at hu0
        · cases hu0
        · rename_i hsp
          obtain ⟨b, off, spot⟩ := a
          cases spot with
          | some s => simp at hsp
          | none =>
            refine ⟨b, off, len0, cap0, c, ty, fr, rfl, by omega, by omega, hblk, fun i j k hi hk => ?_⟩
            obtain ⟨u, hu, htu⟩ := each i hi j k hk
            refine ⟨u, ?_, htu⟩
            unfold World.cell? at hu
            have hb2 : ((⟨b, off, none⟩ : Addr).add (i * ks.length + j)) = ⟨b, off + (i * ks.length + j), none⟩ := addr_add _ _ _
            rw [hb2] at hu
            simp only [hblk] at hu
            simpa using hu
      · cases hu0
def cellInt : Option Value → Int
  | some (.int _ n) => n
  | some (.bool b) => if b then 1 else 0
  | _ => 0
def ekR : EK → Int × Int
  | .int k => (k.min, k.max)
  | .bool => (0, 1)
def ekV (n : Int) : EK → Value
  | .int k => .int k n
  | .bool => .bool (n == 1)
theorem typed_is {k : EK} {u : Value} (h : EKTyped k u) : u = ekV (cellInt (some u)) k ∧ (ekR k).1 ≤ cellInt (some u) ∧ cellInt (some u) ≤ (ekR k).2 := by
  cases k with
  | int k => obtain ⟨n, rfl, h1, h2⟩ := h; exact ⟨rfl, h1, h2⟩
  | bool => obtain ⟨b, rfl⟩ := h; cases b <;> exact ⟨rfl, by decide, by decide⟩
theorem ekR_zero (k : EK) : (ekR k).1 ≤ 0 ∧ 0 ≤ (ekR k).2 := by
  cases k with
  | int k => cases k <;> decide
  | bool => decide
/-- a slice of things, that has some: as the evaluator has it -/
structure XIn (ks : List EK) (W : World) (v : Value) (B : Ext) (rows : List (Int → Int)) : Prop where
  val : v = xsV (some B)
  pos : 0 < B.len
  le : B.len ≤ maxLen
  heap : W.heap[B.blk]? = some (.cells B.c B.ty B.fr)
  sz : B.sz = ks.length
  len : rows.length = ks.length
  cells : ∀ (i j : Nat) k, i < B.len → ks[j]? = some k → B.c[B.off + (i * B.sz + j)]? = some (ekV ((rows.getD j (fun _ => 0)) i) k)
  rg : ∀ (j : Nat) v, (ks.map ekR)[j]? = some v → ∀ a, v.1 ≤ (rows.getD j (fun _ => 0)) a ∧ (rows.getD j (fun _ => 0)) a ≤ v.2
  em : B.em = none
  ng : ∀ (j : Nat) a, a < 0 → (rows.getD j (fun _ => 0)) a = 0
theorem IsXs.rows {ks : List EK} {v : Value} (h : IsXs ks W v) : (∃ a cap, v = .slice a 0 cap) ∨ ∃ B rows, XIn ks W v B rows := by
  rcases h with h | ⟨b, off, len, cap, c, ty, fr, rfl, h1, h2, h3, h4⟩
  · exact .inl h
  · right
    let f : Nat → Int → Int := fun j a => if 0 ≤ a ∧ a.toNat < len then cellInt (c[off + (a.toNat * ks.length + j)]?) else 0
    have hget : ∀ j, j < ks.length → ((List.range ks.length).map f).getD j (fun _ => 0) = f j := by
      intro j hj
      rw [List.getD_eq_getElem?_getD, List.getElem?_map, List.getElem?_range hj]; rfl
    refine ⟨⟨b, off, len, cap, ks.length, c, ty, fr, none⟩, (List.range ks.length).map f, rfl, h1, h2, h3, rfl, by simp, fun i j k hi hk => ?_, fun j v hv a => ?_, rfl, fun j a ha => ?_⟩
    · have hj := (List.getElem?_eq_some_iff.1 hk).1
      obtain ⟨u, hu, ht⟩ := h4 i j k hi hk
      obtain ⟨e1, _⟩ := typed_is ht
      rw [hget j hj]
      show c[off + (i * ks.length + j)]? = some (ekV (f j i) k)
      have : f j i = cellInt (some u) := by
        show (if 0 ≤ ((i : Nat) : Int) ∧ ((i : Nat) : Int).toNat < len then _ else _) = _
        rw [Int.toNat_natCast, if_pos ⟨Int.natCast_nonneg _, hi⟩, hu]
      rw [this, hu]
      exact congrArg some e1
    · rw [List.getElem?_map] at hv
      obtain ⟨k, hk, rfl⟩ := Option.map_eq_some_iff.1 hv
      have hj := (List.getElem?_eq_some_iff.1 hk).1
      rw [hget j hj]
      show (ekR k).1 ≤ (if 0 ≤ a ∧ a.toNat < len then _ else _) ∧ (if 0 ≤ a ∧ a.toNat < len then _ else _) ≤ (ekR k).2
      split
      · rename_i ha
        obtain ⟨u, hu, ht⟩ := h4 _ j k ha.2 hk
        rw [hu]
        exact (typed_is ht).2
      · exact ekR_zero k
    · by_cases hj : j < ks.length
      · rw [hget j hj]
        show (if 0 ≤ a ∧ a.toNat < len then _ else _) = _
        rw [if_neg (by omega)]
      · rw [List.getD_eq_getElem?_getD, List.getElem?_eq_none (by simp; omega)]; rfl
/-- a slice of things, that may be empty -/
structure XAny (ks : List EK) (W : World) (v : Value) (B : Ext) (rows : List (Int → Int)) : Prop where
  val : v = xsV (some B)
  le : B.len ≤ maxLen
  emp : B.em = none ∨ B.len = 0
  heap : B.em = none → W.heap[B.blk]? = some (.cells B.c B.ty B.fr)
  sz : B.sz = ks.length
  len : rows.length = ks.length
  cells : ∀ (i j : Nat) k, i < B.len → ks[j]? = some k → B.c[B.off + (i * B.sz + j)]? = some (ekV ((rows.getD j (fun _ => 0)) i) k)
  rg : ∀ (j : Nat) v, (ks.map ekR)[j]? = some v → ∀ a, v.1 ≤ (rows.getD j (fun _ => 0)) a ∧ (rows.getD j (fun _ => 0)) a ≤ v.2
  ng : ∀ (j : Nat) a, a < 0 → (rows.getD j (fun _ => 0)) a = 0
theorem IsXs.any {ks : List EK} {v : Value} (h : IsXs ks W v) : ∃ B rows, XAny ks W v B rows := by
  rcases h.rows with ⟨a, cap, rfl⟩ | ⟨B, rows, hB⟩
  · refine ⟨⟨0, 0, 0, 0, ks.length, #[], 0, (0, 0), some (a, cap)⟩, List.replicate ks.length (fun _ => 0), rfl, Nat.zero_le _, .inr rfl, fun h => (by cases h), rfl, by simp, fun i j k hi _ => absurd hi (Nat.not_lt_zero _), fun j v hv a => ?_, fun j a _ => (by rw [List.getD_eq_getElem?_getD, List.getElem?_replicate]; split <;> rfl)⟩
    have e : ((List.replicate ks.length (fun _ => (0 : Int))).getD j (fun _ => 0)) a = 0 := by
      rw [List.getD_eq_getElem?_getD, List.getElem?_replicate]; split <;> rfl
    rw [e]
    rw [List.getElem?_map] at hv
    obtain ⟨k, _, rfl⟩ := Option.map_eq_some_iff.1 hv
    exact ekR_zero k
  · exact ⟨B, rows, hB.val, hB.le, .inl hB.em, fun _ => hB.heap, hB.sz, hB.len, hB.cells, hB.rg, hB.ng⟩
theorem ext_any {ks : List EK} {W : World} {v : Value} {B : Ext} {rows : List (Int → Int)} (h : XAny ks W v B rows) {ρ : Env} (hx : ρ.x = fun n => [some B].getD n none) : ExtIn ρ W := by
  intro j B' hB
  unfold Env.y at hB
  rw [hx] at hB
  cases j with
  | zero =>
    simp only [List.getD_cons_zero] at hB
    cases hem : B.em with
    | none => rw [hem] at hB; cases hB; exact h.heap hem
    | some q => rw [hem] at hB; cases hB
  | succ j => simp at hB
end Ev
end Go.Proofs.Ytmgfnejiienghaa
