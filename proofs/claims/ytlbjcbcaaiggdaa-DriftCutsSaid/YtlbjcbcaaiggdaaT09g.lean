/- Chapter 9: a disk's 32 bytes from round to round. -/
import Derived.Test.YtlbjcbcaaiggdaaT09f
namespace Go.Proofs.Ytlbjcbcaaiggdaa
open Go Go.RowKit Ev
set_option linter.unusedVariables false
set_option linter.unusedSimpArgs false
set_option maxRecDepth 100000

structure By32 (b : List Int) : Prop where
  len : b.length = 32
  byt : ∀ x ∈ b, Byt x
theorem By32.at {b : List Int} (h : By32 b) (j : Nat) : Byt (b.getD j 0) := by
  rw [List.getD_eq_getElem?_getD]
  cases e : b[j]? with
  | none => exact ⟨Int.le_refl 0, (by decide : (0 : Int) ≤ 255)⟩
  | some x => exact h.byt x (List.mem_of_getElem? e)
/-- the number and the frequency that stand in a slot; is it whole -/
def sqB (b : List Int) (o : Nat) : Int := ((b.getD (o + 1) 0 * 256 + b.getD (o + 2) 0) * 256 + b.getD (o + 3) 0) * 256 + b.getD (o + 4) 0
def fqB (b : List Int) (o : Nat) : Int := IntKind.i64.wrap (((((((b.getD (o + 5) 0 * 256 + b.getD (o + 6) 0) * 256 + b.getD (o + 7) 0) * 256 + b.getD (o + 8) 0) * 256 + b.getD (o + 9) 0) * 256 + b.getD (o + 10) 0) * 256 + b.getD (o + 11) 0) * 256 + b.getD (o + 12) 0)
def wB (b : List Int) (o : Nat) : Bool := decide (pkE.map (IE.den (envOf [sqB b o, fqB b o])) = (b.drop o).take 16)
theorem sqB_in {b : List Int} (h : By32 b) (o : Nat) : 0 ≤ sqB b o ∧ sqB b o ≤ 4294967295 := by
  have h1 := h.at (o + 1); have h2 := h.at (o + 2); have h3 := h.at (o + 3); have h4 := h.at (o + 4)
  unfold sqB Byt at *
  omega
theorem fqB_in (b : List Int) (o : Nat) : -9223372036854775808 ≤ fqB b o ∧ fqB b o ≤ 9223372036854775807 := by
  unfold fqB
  rw [IntKind.wrap_i64]
  omega
/-- a round's numbers and bools -/
def st9 (pre b : List Int) (i : Int) : List Int := pre ++ (b ++ [i, sqB b 0, fqB b 0, sqB b 16, fqB b 16])
def bo9 (nb : Nat) (b : List Int) : List Bool := List.replicate nb false ++ [wB b 0, wB b 16]
def bsE (m i n : Nat) : List IE := (List.range n).map fun k => .var (m + (i + k))
def nE (m : Nat) : IE := .ap 20 (.var (m + 32)) (.lit 0) (.lit 0)
def nextE (m k : Nat) : IE := .ar .add .u32 (.var (m + k)) (.lit 1)
def nm9 (m : Nat) : List (IE × IE) := [(catE .u32 [.var (m + 1), .var (m + 2), .var (m + 3), .var (m + 4)], .var (m + 33)), (.wr .i64 (catE .u64 [.var (m + 5), .var (m + 6), .var (m + 7), .var (m + 8), .var (m + 9), .var (m + 10), .var (m + 11), .var (m + 12)]), .var (m + 34)),
  (catE .u32 [.var (m + 17), .var (m + 18), .var (m + 19), .var (m + 20)], .var (m + 35)), (.wr .i64 (catE .u64 [.var (m + 21), .var (m + 22), .var (m + 23), .var (m + 24), .var (m + 25), .var (m + 26), .var (m + 27), .var (m + 28)]), .var (m + 36)),
  (seqE (.lit 1) (nE m), .lit 1), (freqE (.lit 1) (nE m), nE m), (seqE (nextE m 33) (nE m), nextE m 33), (freqE (nextE m 33) (nE m), nE m), (seqE (nextE m 35) (nE m), nextE m 35), (freqE (nextE m 35) (nE m), nE m)]
def nb9 (m nb : Nat) : List (BE × Nat) := [(eqBs (pB (.var (m + 33)) (.var (m + 34))) (bsE m 0 16), nb), (eqBs (pB (.var (m + 35)) (.var (m + 36))) (bsE m 16 16), nb + 1)]
theorem getD_mid (pre b post : List Int) (j : Nat) : (pre ++ (b ++ post)).getD (pre.length + j) 0 = (b ++ post).getD j 0 := by
  rw [List.getD_eq_getElem?_getD, List.getElem?_append_right (by omega), Nat.add_sub_cancel_left, ← List.getD_eq_getElem?_getD]
section
variable {ρ : Env} {pre b : List Int} (hb : By32 b) {m : Nat} (hm : pre.length = m) {i : Int} {bs : List Bool}
include hb hm
theorem st9_at (j : Nat) (hj : j < 32) : (ρ.on (st9 pre b i) bs).i (m + j) = b.getD j 0 := by
  show (pre ++ (b ++ [i, sqB b 0, fqB b 0, sqB b 16, fqB b 16])).getD (m + j) 0 = _
  rw [← hm, getD_mid, List.getD_eq_getElem?_getD, List.getElem?_append_left (by rw [hb.len]; exact hj), ← List.getD_eq_getElem?_getD]
theorem st9_behind (k : Nat) : (ρ.on (st9 pre b i) bs).i (m + (32 + k)) = [i, sqB b 0, fqB b 0, sqB b 16, fqB b 16].getD k 0 := by
  show (pre ++ (b ++ [i, sqB b 0, fqB b 0, sqB b 16, fqB b 16])).getD (m + (32 + k)) 0 = _
  rw [← hm, getD_mid, List.getD_eq_getElem?_getD, List.getElem?_append_right (by rw [hb.len]; omega), hb.len, Nat.add_sub_cancel_left, ← List.getD_eq_getElem?_getD]
theorem st9_i : (ρ.on (st9 pre b i) bs).i (m + 32) = i := st9_behind hb hm 0
theorem st9_s0 : (ρ.on (st9 pre b i) bs).i (m + 33) = sqB b 0 := st9_behind hb hm 1
theorem st9_f0 : (ρ.on (st9 pre b i) bs).i (m + 34) = fqB b 0 := st9_behind hb hm 2
theorem st9_s1 : (ρ.on (st9 pre b i) bs).i (m + 35) = sqB b 16 := st9_behind hb hm 3
theorem st9_f1 : (ρ.on (st9 pre b i) bs).i (m + 36) = fqB b 16 := st9_behind hb hm 4
theorem st9_byt (j : Nat) (hj : j < 32) : Byt ((IE.var (m + j)).den (ρ.on (st9 pre b i) bs)) := by
  show Byt ((ρ.on (st9 pre b i) bs).i (m + j))
  rw [st9_at hb hm j hj]
  exact hb.at j
theorem st9_rg {rg : List (Int × Int)} (hl : rg.length = m) (hr : ∀ (k : Nat) v, rg[k]? = some v → v.1 ≤ pre.getD k 0 ∧ pre.getD k 0 ≤ v.2) {K : Int} (hi : 0 ≤ i ∧ i ≤ K) :
    ∀ (k : Nat) v, (rg ++ (List.replicate 32 byR9 ++ [(0, K), u32R9, i64R9, u32R9, i64R9]))[k]? = some v → v.1 ≤ (ρ.on (st9 pre b i) bs).i k ∧ (ρ.on (st9 pre b i) bs).i k ≤ v.2 := by
  intro k v h
  by_cases h1 : k < m
  · rw [List.getElem?_append_left (by omega)] at h
    have e : (ρ.on (st9 pre b i) bs).i k = pre.getD k 0 := by
      show (pre ++ (b ++ [i, sqB b 0, fqB b 0, sqB b 16, fqB b 16])).getD k 0 = _
      rw [List.getD_eq_getElem?_getD, List.getElem?_append_left (by omega), ← List.getD_eq_getElem?_getD]
    rw [e]; exact hr k v h
  · obtain ⟨j, rfl⟩ : ∃ j, k = m + j := ⟨k - m, by omega⟩
    rw [List.getElem?_append_right (by omega), hl, Nat.add_sub_cancel_left] at h
    by_cases h2 : j < 32
    · rw [List.getElem?_append_left (by simpa using h2), List.getElem?_replicate, if_pos h2] at h
      cases h
      rw [st9_at hb hm j h2]
      exact hb.at j
    · obtain ⟨q, rfl⟩ : ∃ q, j = 32 + q := ⟨j - 32, by omega⟩
      rw [List.getElem?_append_right (by simp), List.length_replicate, Nat.add_sub_cancel_left] at h
      rw [st9_behind hb hm q]
      rcases q with _ | _ | _ | _ | _ | q
      · cases h; exact hi
      · cases h; exact sqB_in hb 0
      · cases h; exact fqB_in b 0
      · cases h; exact sqB_in hb 16
      · cases h; exact fqB_in b 16
      · cases h
theorem st9_nm (ha : PkA ρ) {dr : Int → Int} (hd : ∀ a, ρ.a 20 a 0 0 = dr a) (ho : ∀ a, -9223372036854775808 ≤ dr a ∧ dr a ≤ 9223372036854775807) : ∀ p ∈ nm9 m, p.1.den (ρ.on (st9 pre b i) bs) = p.2.den (ρ.on (st9 pre b i) bs) := by
  generalize hρ : ρ.on (st9 pre b i) bs = ρ'
  have hp : PkA ρ' := by rw [← hρ]; exact ha
  have by' : ∀ j, j < 32 → Byt ((IE.var (m + j)).den ρ') := fun j hj => by rw [← hρ]; exact st9_byt hb hm j hj
  have at' : ∀ j, j < 32 → (IE.var (m + j)).den ρ' = b.getD j 0 := fun j hj => by rw [← hρ]; exact st9_at hb hm j hj
  have n1 : -9223372036854775808 ≤ (nE m).den ρ' ∧ (nE m).den ρ' ≤ 9223372036854775807 := by
    rw [← hρ]; show _ ≤ ρ.a 20 _ 0 0 ∧ ρ.a 20 _ 0 0 ≤ _; rw [hd]; exact ho _
  have l1 : 0 ≤ (IE.lit 1).den ρ' ∧ (IE.lit 1).den ρ' ≤ 4294967295 := ⟨by show (0 : Int) ≤ 1; decide, by show (1 : Int) ≤ 4294967295; decide⟩
  have t1 : ∀ k, 0 ≤ (nextE m k).den ρ' ∧ (nextE m k).den ρ' ≤ 4294967295 := fun k => by
    show 0 ≤ IntKind.u32.wrap _ ∧ IntKind.u32.wrap _ ≤ _
    rw [IntKind.wrap_u32]; omega
  intro p hp'
  simp only [nm9, List.mem_cons, List.not_mem_nil, or_false] at hp'
  rcases hp' with rfl | rfl | rfl | rfl | rfl | rfl | rfl | rfl | rfl | rfl
  · rw [cat4 (by' 1 (by decide)) (by' 2 (by decide)) (by' 3 (by decide)) (by' 4 (by decide)), at' 1 (by decide), at' 2 (by decide), at' 3 (by decide), at' 4 (by decide)]
    rw [← hρ]; exact (st9_s0 hb hm).symm
  · show IntKind.i64.wrap _ = _
    rw [cat8 (by' 5 (by decide)) (by' 6 (by decide)) (by' 7 (by decide)) (by' 8 (by decide)) (by' 9 (by decide)) (by' 10 (by decide)) (by' 11 (by decide)) (by' 12 (by decide)), at' 5 (by decide), at' 6 (by decide), at' 7 (by decide), at' 8 (by decide), at' 9 (by decide), at' 10 (by decide), at' 11 (by decide), at' 12 (by decide)]
    rw [← hρ]; exact (st9_f0 hb hm).symm
  · rw [cat4 (by' 17 (by decide)) (by' 18 (by decide)) (by' 19 (by decide)) (by' 20 (by decide)), at' 17 (by decide), at' 18 (by decide), at' 19 (by decide), at' 20 (by decide)]
    rw [← hρ]; exact (st9_s1 hb hm).symm
  · show IntKind.i64.wrap _ = _
    rw [cat8 (by' 21 (by decide)) (by' 22 (by decide)) (by' 23 (by decide)) (by' 24 (by decide)) (by' 25 (by decide)) (by' 26 (by decide)) (by' 27 (by decide)) (by' 28 (by decide)), at' 21 (by decide), at' 22 (by decide), at' 23 (by decide), at' 24 (by decide), at' 25 (by decide), at' 26 (by decide), at' 27 (by decide), at' 28 (by decide)]
    rw [← hρ]; exact (st9_f1 hb hm).symm
  · exact seqE_den hp l1 n1
  · exact freqE_den hp l1 n1
  · exact seqE_den hp (t1 33) n1
  · exact freqE_den hp (t1 33) n1
  · exact seqE_den hp (t1 35) n1
  · exact freqE_den hp (t1 35) n1
theorem bsE_den (o : Nat) (ho : o + 16 ≤ 32) : (bsE m o 16).map (IE.den (ρ.on (st9 pre b i) bs)) = (b.drop o).take 16 := by
  apply List.ext_getElem
  · simp [bsE, hb.len]; omega
  · intro k h1 h2
    have hk : k < 16 := by simpa [bsE] using h1
    simp only [bsE, List.getElem_map, List.getElem_range, List.getElem_take, List.getElem_drop]
    show (ρ.on (st9 pre b i) bs).i (m + (o + k)) = _
    rw [st9_at hb hm (o + k) (by omega), List.getD_eq_getElem?_getD, List.getElem?_eq_getElem (by rw [hb.len]; omega)]
    rfl
theorem st9_nb (ha : PkA ρ) (nb : Nat) : ∀ p ∈ nb9 m nb, p.1.den (ρ.on (st9 pre b i) (bo9 nb b)) = (ρ.on (st9 pre b i) (bo9 nb b)).b p.2 := by
  have b0 : (ρ.on (st9 pre b i) (bo9 nb b)).b nb = wB b 0 := by
    show (List.replicate nb false ++ [wB b 0, wB b 16]).getD nb false = _
    rw [List.getD_eq_getElem?_getD, List.getElem?_append_right (by simp), List.length_replicate, Nat.sub_self]; rfl
  have b1 : (ρ.on (st9 pre b i) (bo9 nb b)).b (nb + 1) = wB b 16 := by
    show (List.replicate nb false ++ [wB b 0, wB b 16]).getD (nb + 1) false = _
    rw [List.getD_eq_getElem?_getD, List.getElem?_append_right (by simp), List.length_replicate, Nat.add_sub_cancel_left]; rfl
  have hp : PkA (ρ.on (st9 pre b i) (bo9 nb b)) := ha
  intro p hp'
  simp only [nb9, List.mem_cons, List.not_mem_nil, or_false] at hp'
  rcases hp' with rfl | rfl
  · rw [b0, eqBs_all (by simp [bsE, pB]), bsE_den hb hm 0 (by decide)]
    unfold wB
    have e0 : (IE.var (m + 33)).den (ρ.on (st9 pre b i) (bo9 nb b)) = sqB b 0 := st9_s0 hb hm
    have e1 : (IE.var (m + 34)).den (ρ.on (st9 pre b i) (bo9 nb b)) = fqB b 0 := st9_f0 hb hm
    rw [pB_den hp (by rw [e0]; exact sqB_in hb 0) (by rw [e1]; exact fqB_in b 0), e0, e1]
  · rw [b1, eqBs_all (by simp [bsE, pB]), bsE_den hb hm 16 (by decide)]
    unfold wB
    have e0 : (IE.var (m + 35)).den (ρ.on (st9 pre b i) (bo9 nb b)) = sqB b 16 := st9_s1 hb hm
    have e1 : (IE.var (m + 36)).den (ρ.on (st9 pre b i) (bo9 nb b)) = fqB b 16 := st9_f1 hb hm
    rw [pB_den hp (by rw [e0]; exact sqB_in hb 16) (by rw [e1]; exact fqB_in b 16), e0, e1]
end
/-- the bytes behind k rounds -/
def run9 (ρ : Env) (m nb : Nat) (T : RT) (pre b0 : List Int) : Nat → List Int
  | 0 => b0
  | k + 1 => bytesOf (ρ.on (st9 pre (run9 ρ m nb T pre b0 k) k) (bo9 nb (run9 ρ m nb T pre b0 k))) m T
theorem loop9 {F : FuncId} {p : List Nat} {u N : Nat} {L : LoopSum} {H : St} {T : RT} {es : List IE} {bs0 : List BE} {X : Ctx} {m nb : Nat} (hB : lpB Try.prog X N F p u L H T es bs0 = true) {cd : Code} (hc : codeAt Try.prog F p = .loop cd) {ρ ρ0 : Env} {E : List (Nat × Nat)} (hρ : ∀ is bs, ρ.on is bs = ρ0.on is bs) {pre b0 : List Int} (hm : pre.length = m) (hb0 : By32 b0) (n : Nat)
    (hes : dens ρ es = pre ++ (b0 ++ [0])) (hbs : bdens ρ bs0 = List.replicate nb false) (hP : PkA ρ0)
    (hX : ∀ b (i : Nat), By32 b → i ≤ n → Knows (ρ0.on (st9 pre b i) (bo9 nb b)) X) (hC : ∀ b (i : Nat), By32 b → i ≤ n → ∀ E, KnowsC Try.prog (ρ0.on (st9 pre b i) (bo9 nb b)) E X)
    (hsh : shapeT m nb T = true) (hgo : ∀ b (i : Nat), By32 b → i < n → ∃ is bs, T.next (ρ0.on (st9 pre b i) (bo9 nb b)) = some (is, bs))
    (hout : ∃ is bs, T.out (ρ0.on (st9 pre (run9 ρ0 m nb T pre b0 n) n) (bo9 nb (run9 ρ0 m nb T pre b0 n))) = some (is, bs) ∧ ρ.has is bs) : LoopGoes Try.prog ρ E L cd := by
  have step : ∀ b (i : Nat), By32 b → i < n → ∃ is bs, T.next (ρ0.on (st9 pre b i) (bo9 nb b)) = some (is, bs) ∧ is = pre ++ (bytesOf (ρ0.on (st9 pre b i) (bo9 nb b)) m T ++ [((i + 1 : Nat) : Int)]) ∧ bs = List.replicate nb false ∧ By32 (bytesOf (ρ0.on (st9 pre b i) (bo9 nb b)) m T) := by
    intro b i hb hi
    obtain ⟨is, bs, h⟩ := hgo b i hb hi
    obtain ⟨h1, h2, h3, h4⟩ := shape_ok (ρ := ρ0.on (st9 pre b i) (bo9 nb b)) (by exact hP) (m := m) (fun j h5 h6 => by
      obtain ⟨k, rfl⟩ : ∃ k, j = m + k := ⟨j - m, by omega⟩
      exact st9_byt hb hm k (by omega)) hsh h
    have eb : bytesOf (ρ0.on (st9 pre b i) (bo9 nb b)) m T = (is.drop m).take 32 := by unfold bytesOf; rw [h]
    have ep : (List.range m).map (ρ0.on (st9 pre b i) (bo9 nb b)).i = pre := by
      apply List.ext_getElem
      · simp [hm]
      · intro k h5 h6
        rw [List.getElem_map, List.getElem_range]
        show (pre ++ (b ++ [(i : Int), sqB b 0, fqB b 0, sqB b 16, fqB b 16])).getD k 0 = _
        rw [List.getD_eq_getElem?_getD, List.getElem?_append_left h6, List.getElem?_eq_getElem h6]; rfl
    refine ⟨is, bs, h, ?_, ?_, ?_⟩
    · rw [eb]
      rw [ep, st9_i hb hm] at h1
      rw [h1]
      have ed : ((pre ++ (is.drop m).take 32 ++ [(i : Int) + 1]).drop m).take 32 = (is.drop m).take 32 := by rw [← h1]
      rw [ed, List.append_assoc]
      rfl
    · rw [h4]
      apply List.ext_getElem
      · simp
      · intro k h5 h6
        have hk : k < nb := by simpa using h6
        rw [List.getElem_map, List.getElem_range, List.getElem_replicate]
        show (List.replicate nb false ++ [wB b 0, wB b 16]).getD k false = false
        rw [List.getD_eq_getElem?_getD, List.getElem?_append_left (by simpa using hk), List.getElem?_replicate, if_pos hk]; rfl
    · rw [eb]; exact ⟨h2, h3⟩
  have run_ok : ∀ k, k ≤ n → By32 (run9 ρ0 m nb T pre b0 k) := by
    intro k
    induction k with
    | zero => intro _; exact hb0
    | succ k ih => intro hk; obtain ⟨_, _, _, _, _, h⟩ := step _ k (ih (by omega)) (by omega); exact h
  refine rt_lpg mixed09 hB hc (fun q is bs => ∃ i : Nat, i ≤ n ∧ q = n - i ∧ is = st9 pre (run9 ρ0 m nb T pre b0 i) i ∧ bs = bo9 nb (run9 ρ0 m nb T pre b0 i)) ?_ ?_ ⟨n, _, _, ⟨0, Nat.zero_le _, rfl, rfl, rfl⟩, ?_, ?_⟩ ?_
  · rintro q is bs ⟨i, hi, _, rfl, rfl⟩
    rw [hρ]; exact hX _ i (run_ok i hi) hi
  · rintro q is bs ⟨i, hi, _, rfl, rfl⟩ E
    rw [hρ]; exact hC _ i (run_ok i hi) hi E
  · rw [hes]
    refine ⟨[sqB b0 0, fqB b0 0, sqB b0 16, fqB b0 16], ?_⟩
    show pre ++ (b0 ++ [0]) ++ _ = pre ++ (b0 ++ [((0 : Nat) : Int), sqB b0 0, fqB b0 0, sqB b0 16, fqB b0 16])
    simp
  · rw [hbs]; exact ⟨_, rfl⟩
  · rintro q is bs ⟨i, hi, rfl, rfl, rfl⟩
    rw [hρ]
    by_cases hlt : i < n
    · obtain ⟨is, bs, h1, h2, h3, h4⟩ := step _ i (run_ok i hi) hlt
      refine .inl ⟨is, bs, n - (i + 1), _, _, h1, by omega, ⟨i + 1, by omega, rfl, rfl, rfl⟩, ?_, ?_⟩
      · rw [h2]
        refine ⟨[sqB (run9 ρ0 m nb T pre b0 (i + 1)) 0, fqB (run9 ρ0 m nb T pre b0 (i + 1)) 0, sqB (run9 ρ0 m nb T pre b0 (i + 1)) 16, fqB (run9 ρ0 m nb T pre b0 (i + 1)) 16], ?_⟩
        show pre ++ (run9 ρ0 m nb T pre b0 (i + 1) ++ [((i + 1 : Nat) : Int)]) ++ _ = _
        simp [st9]
      · rw [h3]; exact ⟨_, rfl⟩
    · obtain rfl : i = n := by omega
      obtain ⟨is, bs, h1, h2⟩ := hout
      exact .inr ⟨is, bs, h1, h2⟩
/-- a round that writes a slot -/
def goW (m nb at' : Nat) (t f : IE) : RT := .go ((List.range m).map .var ++ (if Nat.beq at' 0 then pB t f ++ bsE m 16 16 else bsE m 0 16 ++ pB t f) ++ [.pl .add (.var (m + 32)) (.lit 1)]) ((List.range nb).map .var)
def ordE (a b : IE) : BE := .cmp .lss (.lit 0) (.wr .i32 (.ar .sub .u32 a b))
theorem ord_up {x : Int} (h : 0 ≤ x ∧ x ≤ 4294967295) : IntKind.i32.wrap (arI .sub .u32 (arI .add .u32 x 1) x) = 1 := by
  show IntKind.i32.wrap (IntKind.u32.wrap (IntKind.u32.wrap (x + 1) - x)) = 1
  rw [IntKind.wrap_u32, IntKind.wrap_u32, IntKind.wrap_i32]
  omega
theorem ord_down {x : Int} (h : 0 ≤ x ∧ x ≤ 4294967295) : IntKind.i32.wrap (arI .sub .u32 x (arI .add .u32 x 1)) = -1 := by
  show IntKind.i32.wrap (IntKind.u32.wrap (x - IntKind.u32.wrap (x + 1))) = -1
  rw [IntKind.wrap_u32, IntKind.wrap_u32, IntKind.wrap_i32]
  omega
end Go.Proofs.Ytlbjcbcaaiggdaa
