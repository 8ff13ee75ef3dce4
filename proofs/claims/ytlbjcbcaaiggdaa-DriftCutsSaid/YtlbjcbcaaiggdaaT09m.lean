/- Chapter 9: DriftCuts: what is known behind its loop, and the loop. -/
import Derived.Test.YtlbjcbcaaiggdaaT09k
import Derived.Test.YtlbjcbcaaiggdaaT09j
namespace Go.Proofs.Ytlbjcbcaaiggdaa
open Go Go.RowKit Ev
set_option linter.unusedVariables false
set_option linter.unusedSimpArgs false
set_option maxRecDepth 100000

/-- the law's numbers behind the loop -/
abbrev cuL5 (n : Int) (S : ByteArray) (f c : Int) : List Int := [n, (S.size : Int), f, c, c % 20]
abbrev cuIs (n : Int) (S : ByteArray) (f c : Int) (b : List Int) : List Int := cuL5 n S f c ++ (b ++ [sqB b 0, fqB b 0, sqB b 16, fqB b 16])
noncomputable abbrev cuEnv (n : Int) (S : ByteArray) (f c : Int) (b : List Int) (rows : List (Int → Int)) (xs : List (Option Ext)) : Env := envOf (cuIs n S f c b) [wB b 0, wB b 16] [] [S] (apD S rows) xs
section
variable {n f c : Int} {S : ByteArray} {b : List Int} (hb : By32 b) {rows : List (Int → Int)} {xs : List (Option Ext)}
include hb
theorem cu_at (j : Nat) (hj : j < 32) : (cuEnv n S f c b rows xs).i (5 + j) = b.getD j 0 := by
  show (cuL5 n S f c ++ (b ++ [sqB b 0, fqB b 0, sqB b 16, fqB b 16])).getD ((cuL5 n S f c).length + j) 0 = _
  rw [getD_mid, List.getD_eq_getElem?_getD, List.getElem?_append_left (by rw [hb.len]; exact hj), ← List.getD_eq_getElem?_getD]
theorem cu_behind (k : Nat) : (cuEnv n S f c b rows xs).i (5 + (32 + k)) = [sqB b 0, fqB b 0, sqB b 16, fqB b 16].getD k 0 := by
  show (cuL5 n S f c ++ (b ++ [sqB b 0, fqB b 0, sqB b 16, fqB b 16])).getD ((cuL5 n S f c).length + (32 + k)) 0 = _
  rw [getD_mid, List.getD_eq_getElem?_getD, List.getElem?_append_right (by rw [hb.len]; omega), hb.len, Nat.add_sub_cancel_left, ← List.getD_eq_getElem?_getD]
theorem cu_nm (hf : -9223372036854775808 ≤ f ∧ f ≤ 9223372036854775807) (hc : 0 ≤ c ∧ c ≤ 255) : ∀ p ∈ nmM, p.1.den (cuEnv n S f c b rows xs) = p.2.den (cuEnv n S f c b rows xs) := by
  have at' : ∀ j, j < 32 → (IE.var (5 + j)).den (cuEnv n S f c b rows xs) = b.getD j 0 := fun j hj => cu_at hb j hj
  have by' : ∀ j, j < 32 → Byt ((IE.var (5 + j)).den (cuEnv n S f c b rows xs)) := fun j hj => by rw [at' j hj]; exact hb.at j
  have e37 : (cuEnv n S f c b rows xs).i 37 = sqB b 0 := cu_behind hb 0
  have e38 : (cuEnv n S f c b rows xs).i 38 = fqB b 0 := cu_behind hb 1
  have e39 : (cuEnv n S f c b rows xs).i 39 = sqB b 16 := cu_behind hb 2
  have e40 : (cuEnv n S f c b rows xs).i 40 = fqB b 16 := cu_behind hb 3
  have i2 : (cuEnv n S f c b rows xs).i 2 = f := rfl
  have i3 : (cuEnv n S f c b rows xs).i 3 = c := rfl
  have i4 : (cuEnv n S f c b rows xs).i 4 = c % 20 := rfl
  have hp : PkA (cuEnv n S f c b rows xs) := pkA_D (S := S) (rows := rows) rfl
  generalize cuEnv n S f c b rows xs = ρ at *
  have n1 : -9223372036854775808 ≤ (IE.var 2).den ρ ∧ (IE.var 2).den ρ ≤ 9223372036854775807 := by show _ ≤ ρ.i 2 ∧ ρ.i 2 ≤ _; rw [i2]; exact hf
  have l1 : 0 ≤ (IE.lit 1).den ρ ∧ (IE.lit 1).den ρ ≤ 4294967295 := ⟨by show (0 : Int) ≤ 1; decide, by show (1 : Int) ≤ 4294967295; decide⟩
  have t1 : ∀ k, 0 ≤ (nxM k).den ρ ∧ (nxM k).den ρ ≤ 4294967295 := fun k => by
    show 0 ≤ IntKind.u32.wrap _ ∧ IntKind.u32.wrap _ ≤ _
    rw [IntKind.wrap_u32]; omega
  intro p hp'
  simp only [nmM, List.mem_cons, List.not_mem_nil, or_false] at hp'
  rcases hp' with rfl | rfl | rfl | rfl | rfl | rfl | rfl | rfl | rfl | rfl | rfl
  · show (ρ.i 3).tmod 20 = ρ.i 4
    rw [i3, i4, Int.tmod_eq_emod_of_nonneg hc.1]
  · rw [cat4 (by' 1 (by decide)) (by' 2 (by decide)) (by' 3 (by decide)) (by' 4 (by decide)), at' 1 (by decide), at' 2 (by decide), at' 3 (by decide), at' 4 (by decide)]
    exact e37.symm
  · show IntKind.i64.wrap _ = _
    rw [cat8 (by' 5 (by decide)) (by' 6 (by decide)) (by' 7 (by decide)) (by' 8 (by decide)) (by' 9 (by decide)) (by' 10 (by decide)) (by' 11 (by decide)) (by' 12 (by decide)), at' 5 (by decide), at' 6 (by decide), at' 7 (by decide), at' 8 (by decide), at' 9 (by decide), at' 10 (by decide), at' 11 (by decide), at' 12 (by decide)]
    exact e38.symm
  · rw [cat4 (by' 17 (by decide)) (by' 18 (by decide)) (by' 19 (by decide)) (by' 20 (by decide)), at' 17 (by decide), at' 18 (by decide), at' 19 (by decide), at' 20 (by decide)]
    exact e39.symm
  · show IntKind.i64.wrap _ = _
    rw [cat8 (by' 21 (by decide)) (by' 22 (by decide)) (by' 23 (by decide)) (by' 24 (by decide)) (by' 25 (by decide)) (by' 26 (by decide)) (by' 27 (by decide)) (by' 28 (by decide)), at' 21 (by decide), at' 22 (by decide), at' 23 (by decide), at' 24 (by decide), at' 25 (by decide), at' 26 (by decide), at' 27 (by decide), at' 28 (by decide)]
    exact e40.symm
  · exact seqE_den hp l1 n1
  · exact freqE_den hp l1 n1
  · exact seqE_den hp (t1 37) n1
  · exact freqE_den hp (t1 37) n1
  · exact seqE_den hp (t1 39) n1
  · exact freqE_den hp (t1 39) n1
theorem cu_bsE (o : Nat) (ho : o + 16 ≤ 32) : (bsE 5 o 16).map (IE.den (cuEnv n S f c b rows xs)) = (b.drop o).take 16 := by
  apply List.ext_getElem
  · simp [bsE, hb.len]; omega
  · intro k h1 h2
    have hk : k < 16 := by simpa [bsE] using h1
    simp only [bsE, List.getElem_map, List.getElem_range, List.getElem_take, List.getElem_drop]
    show (cuEnv n S f c b rows xs).i (5 + (o + k)) = _
    rw [cu_at hb (o + k) (by omega), List.getD_eq_getElem?_getD, List.getElem?_eq_getElem (by rw [hb.len]; omega)]
    rfl
theorem cu_nb : ∀ p ∈ nbM, p.1.den (cuEnv n S f c b rows xs) = (cuEnv n S f c b rows xs).b p.2 := by
  have e37 : (IE.var 37).den (cuEnv n S f c b rows xs) = sqB b 0 := cu_behind hb 0
  have e38 : (IE.var 38).den (cuEnv n S f c b rows xs) = fqB b 0 := cu_behind hb 1
  have e39 : (IE.var 39).den (cuEnv n S f c b rows xs) = sqB b 16 := cu_behind hb 2
  have e40 : (IE.var 40).den (cuEnv n S f c b rows xs) = fqB b 16 := cu_behind hb 3
  have hp : PkA (cuEnv n S f c b rows xs) := pkA_D (S := S) (rows := rows) rfl
  intro p hp'
  simp only [nbM, List.mem_cons, List.not_mem_nil, or_false] at hp'
  rcases hp' with rfl | rfl
  · show _ = wB b 0
    rw [eqBs_all (by simp [bsE, pB]), cu_bsE hb 0 (by decide)]
    unfold wB
    rw [pB_den hp (by rw [e37]; exact sqB_in hb 0) (by rw [e38]; exact fqB_in b 0), e37, e38]
  · show _ = wB b 16
    rw [eqBs_all (by simp [bsE, pB]), cu_bsE hb 16 (by decide)]
    unfold wB
    rw [pB_den hp (by rw [e39]; exact sqB_in hb 16) (by rw [e40]; exact fqB_in b 16), e39, e40]
theorem cu_rg {u : Int × Int} (hn : u.1 ≤ n ∧ n ≤ u.2) (hS : S.size ≤ 100) (hf : -9223372036854775808 ≤ f ∧ f ≤ 9223372036854775807) (hc : 0 ≤ c ∧ c ≤ 255) : AllIn (cuEnv n S f c b rows xs).i ([u, (0, 100), i64R9, byR9, (0, 19)] ++ List.replicate 32 byR9 ++ [u32R9, i64R9, u32R9, i64R9]) 0 := by
  refine allIn_of fun k v h => ?_
  rw [Nat.zero_add]
  rw [List.append_assoc] at h
  by_cases h1 : k < 5
  · rw [List.getElem?_append_left h1] at h
    rcases k with _ | _ | _ | _ | _ | k
    · cases h; exact hn
    · cases h; exact ⟨by show (0 : Int) ≤ S.size; omega, by show (S.size : Int) ≤ 100; omega⟩
    · cases h; exact hf
    · cases h; exact hc
    · cases h; exact ⟨by show 0 ≤ c % 20; omega, by show c % 20 ≤ 19; omega⟩
    · omega
  · obtain ⟨j, rfl⟩ : ∃ j, k = 5 + j := ⟨k - 5, by omega⟩
    rw [List.getElem?_append_right (by simp)] at h
    have h : (List.replicate 32 byR9 ++ [u32R9, i64R9, u32R9, i64R9])[j]? = some v := by simpa using h
    by_cases h2 : j < 32
    · rw [List.getElem?_append_left (by simpa using h2), List.getElem?_replicate, if_pos h2] at h
      cases h
      rw [cu_at hb j h2]
      exact hb.at j
    · obtain ⟨q, rfl⟩ : ∃ q, j = 32 + q := ⟨j - 32, by omega⟩
      rw [List.getElem?_append_right (by simp), List.length_replicate, Nat.add_sub_cancel_left] at h
      rw [cu_behind hb q]
      rcases q with _ | _ | _ | _ | q
      · cases h; exact sqB_in hb 0
      · cases h; exact fqB_in b 0
      · cases h; exact sqB_in hb 16
      · cases h; exact fqB_in b 16
      · cases h
/-- a path of the tree is taken, and it is true -/
theorem cu_good (k : Nat) : good9 (cuEnv n S f c b rows xs) (cuT k) = true := by
  have e37 : (cuEnv n S f c b rows xs).i 37 = sqB b 0 := cu_behind hb 0
  have e39 : (cuEnv n S f c b rows xs).i 39 = sqB b 16 := cu_behind hb 2
  have b0 : (cuEnv n S f c b rows xs).b 0 = wB b 0 := rfl
  have b1 : (cuEnv n S f c b rows xs).b 1 = wB b 16 := rfl
  generalize cuEnv n S f c b rows xs = ρ at *
  have up := ord_up (sqB_in hb 0)
  have dn := ord_down (sqB_in hb 16)
  unfold cuT
  split
  · simp only [cuS, good9, BE.den, b0, b1]
    cases wB b 0 <;> cases wB b 16 <;> simp only [cond_true, cond_false]
    cases BE.den ρ cuO <;> rfl
  · have dU : BE.den ρ cuU = true := by
      simp only [cuU, ordE, nxM, BE.den, cmpI, IE.den, e37]
      rw [up]; rfl
    have dN : BE.den ρ cuN = false := by
      simp only [cuN, ordE, nxM, BE.den, cmpI, IE.den, e39]
      rw [dn]; rfl
    have dF : good9 ρ cuF = true := by
      show (ρ.i 2 == ρ.i 2) = true
      exact beq_self_eq_true _
    simp only [cuL, good9, BE.den, b0, b1]
    rw [show BE.den ρ (ordE (nxM 37) (.var 37)) = true from dU, show BE.den ρ (ordE (.var 39) (nxM 39)) = false from dN]
    have dG : cmpI .eql (IE.den ρ (.var 2)) (IE.den ρ (.var 2)) = true := dF
    cases wB b 0 <;> cases wB b 16 <;> simp only [cond_true, cond_false, dG]
    cases BE.den ρ cuO <;> rfl
end
/-! the loop -/
noncomputable abbrev dcPre (S : ByteArray) (B : Ext) (f c : Int) : List Int := cuL5 B.len S f c ++ List.replicate 36 0
noncomputable abbrev dcRun (S : ByteArray) (dr : Int → Int) (B : Ext) (f c : Int) : Nat → List Int := run9 (en9 S dr B) 41 2 dcT (dcPre S B f c) (b09 S)
section
variable {W : World} {v : Value} {B : Ext} {dr : Int → Int} (hB : XAny [.int .i64] W v B [dr]) (S : ByteArray) {f c : Int} (hf : -9223372036854775808 ≤ f ∧ f ≤ 9223372036854775807) (hc : 0 ≤ c ∧ c ≤ 255)
include hB hf hc in
theorem dc_knows (hn : B.len ≤ 50) (hS : S.size ≤ 100) (b : List Int) (i : Nat) (hb : By32 b) (hi : i ≤ B.len) : Knows ((en9 S dr B).on (st9 (dcPre S B f c) b i) (bo9 2 b)) (cx9 dcP 50 41 2) := by
  have hm : (dcPre S B f c).length = 41 := rfl
  have hp : PkA (en9 S dr B) := pkA_D (S := S) (rows := [dr]) rfl
  refine ⟨fun c hc => (by cases hc), ?_, arT_ok (dr_in hB) rfl, xs9 (xok9 hB rfl rfl) rfl, st9_nm (m := 41) hb hm hp (fun a => rfl) (dr_in hB), sok9 rfl rfl rfl, st9_nb (m := 41) hb hm hp 2⟩
  refine st9_rg (m := 41) hb (rg := dcP) rfl rfl (fun k v h => ?_) (K := 50) ⟨by omega, by omega⟩
  rcases k with _ | _ | _ | _ | _ | k
  · cases h; exact ⟨by show (0 : Int) ≤ B.len; omega, by show (B.len : Int) ≤ 50; omega⟩
  · cases h; exact ⟨by show (0 : Int) ≤ S.size; omega, by show (S.size : Int) ≤ 100; omega⟩
  · cases h; exact hf
  · cases h; exact hc
  · cases h; exact ⟨by show 0 ≤ c % 20; omega, by show c % 20 ≤ 19; omega⟩
  · have h2 : (List.replicate 36 ((0 : Int), (0 : Int)))[k]? = some v := h
    have h3 : (List.replicate 36 (0 : Int)).getD k 0 = 0 := by
      rw [List.getD_eq_getElem?_getD, List.getElem?_replicate]; split <;> rfl
    rw [List.getElem?_replicate] at h2
    split at h2
    · cases h2
      show (0 : Int) ≤ (List.replicate 36 (0 : Int)).getD k 0 ∧ (List.replicate 36 (0 : Int)).getD k 0 ≤ 0
      rw [h3]; exact ⟨Int.le_refl _, Int.le_refl _⟩
    · cases h2
theorem dc_go {ρ : Env} {b : List Int} (hb : By32 b) {i n : Nat} (hi : i < n) {pre : List Int} (hm : pre.length = 41) (h0 : pre.getD 0 0 = (n : Int)) : ∃ is bs, dcT.next (ρ.on (st9 pre b i) (bo9 2 b)) = some (is, bs) := by
  have e73 : (ρ.on (st9 pre b i) (bo9 2 b)).i 73 = (i : Int) := st9_i hb hm
  have e74 : (ρ.on (st9 pre b i) (bo9 2 b)).i 74 = sqB b 0 := st9_s0 hb hm
  have e76 : (ρ.on (st9 pre b i) (bo9 2 b)).i 76 = sqB b 16 := st9_s1 hb hm
  have e0 : (ρ.on (st9 pre b i) (bo9 2 b)).i 0 = (n : Int) := by
    show (pre ++ (b ++ _)).getD 0 0 = _
    rw [List.getD_eq_getElem?_getD, List.getElem?_append_left (by omega), ← List.getD_eq_getElem?_getD, h0]
  have b0 : (ρ.on (st9 pre b i) (bo9 2 b)).b 2 = wB b 0 := rfl
  have b1 : (ρ.on (st9 pre b i) (bo9 2 b)).b 3 = wB b 16 := rfl
  have hlt : (i : Int) < n := by omega
  have up := ord_up (sqB_in hb 0)
  have dn := ord_down (sqB_in hb 16)
  have u1 : decide ((0 : Int) < 1) = true := rfl
  have d1 : decide ((0 : Int) < -1) = false := rfl
  simp only [dcT, dcG, RT.next, BE.den, cmpI, IE.den, e73, e0, decide_eq_true hlt, cond_true, b0, b1, ordE, nextE, e74, e76, up, dn, u1, d1, cond_false]
  cases wB b 0 <;> cases wB b 16 <;> simp only [cond_true, cond_false]
  · exact ⟨_, _, rfl⟩
  · exact ⟨_, _, rfl⟩
  · exact ⟨_, _, rfl⟩
  · cases decide (0 < IntKind.i32.wrap (arI .sub .u32 (sqB b 16) (sqB b 0)))
    · exact ⟨_, _, rfl⟩
    · exact ⟨_, _, rfl⟩
theorem dc_run (f c : Int) : ∀ k, k ≤ B.len → By32 (dcRun S dr B f c k) := by
  intro k
  induction k with
  | zero => intro _; exact init9 S
  | succ k ih =>
    intro hk
    have hb := ih (by omega)
    obtain ⟨is, bs, h⟩ := dc_go (ρ := en9 S dr B) hb (i := k) (n := B.len) (by omega) (pre := dcPre S B f c) rfl rfl
    obtain ⟨_, h2, h3, _⟩ := shape_ok (ρ := (en9 S dr B).on (st9 (dcPre S B f c) (dcRun S dr B f c k) k) (bo9 2 (dcRun S dr B f c k))) (by exact pkA_D (S := S) (rows := [dr]) rfl) (m := 41) (fun j h5 h6 => by
      obtain ⟨q, rfl⟩ : ∃ q, j = 41 + q := ⟨j - 41, by omega⟩
      exact st9_byt hb rfl q (by omega)) dc_shape h
    have eb : dcRun S dr B f c (k + 1) = (is.drop 41).take 32 := by
      show bytesOf ((en9 S dr B).on (st9 (dcPre S B f c) (dcRun S dr B f c k) k) (bo9 2 (dcRun S dr B f c k))) 41 dcT = _
      unfold bytesOf; rw [h]
    rw [eb]; exact ⟨h2, h3⟩
include hB hf hc in
theorem dc_loop (hlp : lpB Try.prog (cx9 dcP 50 41 2) 2000 6 loP 1 dcL dcH dcT dcE [.lit false, .lit false] = true) (hn : B.len ≤ 50) (hS : S.size ≤ 100) {cd : Code} (hcd : codeAt Try.prog 6 loP = .loop cd) : LoopGoes Try.prog (cuEnv B.len S f c (dcRun S dr B f c B.len) [dr] [some B]) [] dcL cd := by
  refine loop9 (m := 41) hlp hcd (ρ0 := en9 S dr B) (fun is bs => rfl) (pre := dcPre S B f c) (b0 := b09 S) rfl (init9 S) B.len ?_ rfl (pkA_D (S := S) (rows := [dr]) rfl)
    (fun b i hb hi => dc_knows hB S hf hc hn hS b i hb hi) (fun b i hb hi E => cx9_calls (by exact pkA_D (S := S) (rows := [dr]) rfl) (dc_knows hB S hf hc hn hS b i hb hi) E) dc_shape (fun b i hb hi => dc_go hb hi rfl rfl) ?_
  · rfl
  · have hb := dc_run S (dr := dr) f c B.len (Nat.le_refl _)
    refine ⟨cuL5 B.len S f c ++ dcRun S dr B f c B.len, [], ?_, envOf_has_pre ⟨[sqB (dcRun S dr B f c B.len) 0, fqB (dcRun S dr B f c B.len) 0, sqB (dcRun S dr B f c B.len) 16, fqB (dcRun S dr B f c B.len) 16], by simp [cuIs]⟩ ⟨_, List.nil_append _⟩⟩
    have e73 : ((en9 S dr B).on (st9 (dcPre S B f c) (dcRun S dr B f c B.len) B.len) (bo9 2 (dcRun S dr B f c B.len))).i 73 = (B.len : Int) := st9_i hb rfl
    have e0 : ((en9 S dr B).on (st9 (dcPre S B f c) (dcRun S dr B f c B.len) B.len) (bo9 2 (dcRun S dr B f c B.len))).i 0 = (B.len : Int) := rfl
    have out : ∀ ρ' : Env, ρ'.i 73 = (B.len : Int) → ρ'.i 0 = (B.len : Int) → dcT.out ρ' = some (dens ρ' dcO, []) := by
      intro ρ' h1 h2
      have hlt : ¬ ((B.len : Int) < (B.len : Int)) := by omega
      simp only [dcT, RT.out, BE.den, cmpI, IE.den, h1, h2, decide_eq_false hlt, cond_false]
      rfl
    refine (out _ e73 e0).trans ?_
    unfold dens dcO
    rw [List.map_append, bsE_all (m := 41) hb (show (dcPre S B f c).length = 41 from rfl)]
    rfl
end
end Go.Proofs.Ytlbjcbcaaiggdaa
