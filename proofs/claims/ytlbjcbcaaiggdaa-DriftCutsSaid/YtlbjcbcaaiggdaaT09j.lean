/- Chapter 9: DriftTurns: the walk. -/
import Derived.Test.YtlbjcbcaaiggdaaT09i
namespace Go.Proofs.Ytlbjcbcaaiggdaa
open Go Go.RowKit Ev
set_option linter.unusedVariables false
set_option linter.unusedSimpArgs false
set_option maxRecDepth 100000

theorem allIn_of {f : Nat → Int} : ∀ {vs : List (Int × Int)} {k : Nat}, (∀ (i : Nat) v, vs[i]? = some v → v.1 ≤ f (k + i) ∧ f (k + i) ≤ v.2) → AllIn f vs k
  | [], k, _ => trivial
  | v :: vs, k, h => ⟨h 0 v rfl, allIn_of fun i u hu => by
      have := h (i + 1) u hu
      rwa [show k + (i + 1) = k + 1 + i by omega] at this⟩
theorem bsE_all {ρ : Env} {pre b : List Int} (hb : By32 b) {m : Nat} (hm : pre.length = m) {i : Int} {bs : List Bool} : (bsE m 0 32).map (IE.den (ρ.on (st9 pre b i) bs)) = b := by
  apply List.ext_getElem
  · simp [bsE, hb.len]
  · intro k h1 h2
    have hk : k < 32 := by simpa [bsE] using h1
    simp only [bsE, List.getElem_map, List.getElem_range]
    show (ρ.on (st9 pre b i) bs).i (m + (0 + k)) = _
    rw [Nat.zero_add, st9_at hb hm k hk, List.getD_eq_getElem?_getD, List.getElem?_eq_getElem h2]
    rfl
/-- the disk's first bytes: those of the string, then noughts -/
def b09 (S : ByteArray) : List Int := (List.range 32).map fun j : Nat => mixI S (j : Int) 0
theorem init9 (S : ByteArray) : By32 (b09 S) := by
  unfold b09
  refine ⟨by simp, fun x hx => ?_⟩
  obtain ⟨j, _, rfl⟩ := List.mem_map.1 hx
  exact mix_in S j 0
section
variable {W : World} {v : Value} {B : Ext} {dr : Int → Int} (hB : XAny [.int .i64] W v B [dr]) (S : ByteArray)
noncomputable abbrev en9 (S : ByteArray) (dr : Int → Int) (B : Ext) : Env := envOf [] [] [] [S] (apD S [dr]) [some B]
include hB in
theorem dr_in : ∀ a, -9223372036854775808 ≤ dr a ∧ dr a ≤ 9223372036854775807 := hB.rg 0 _ rfl
abbrev dtPre (S : ByteArray) (B : Ext) : List Int := [(B.len : Int), (S.size : Int)] ++ List.replicate 32 0
noncomputable abbrev dtRun (S : ByteArray) (dr : Int → Int) (B : Ext) : Nat → List Int := run9 (en9 S dr B) 34 0 dtT (dtPre S B) (b09 S)
include hB in
theorem dt_knows (hn : B.len ≤ 60) (hS : S.size ≤ 100) (b : List Int) (i : Nat) (hb : By32 b) (hi : i ≤ B.len) : Knows ((en9 S dr B).on (st9 (dtPre S B) b i) (bo9 0 b)) (cx9 dtP 60 34 0) := by
  have hm : (dtPre S B).length = 34 := rfl
  have hp : PkA (en9 S dr B) := pkA_D (S := S) (rows := [dr]) rfl
  refine ⟨fun c hc => (by cases hc), ?_, arT_ok (dr_in hB) rfl, xs9 (xok9 hB rfl rfl) rfl, st9_nm (m := 34) hb hm hp (fun a => rfl) (dr_in hB), sok9 rfl rfl rfl, st9_nb (m := 34) hb hm hp 0⟩
  refine st9_rg (m := 34) hb (rg := dtP) rfl rfl (fun k v h => ?_) (K := 60) ⟨by omega, by omega⟩
  rcases k with _ | _ | k
  · cases h; exact ⟨by show (0 : Int) ≤ B.len; omega, by show (B.len : Int) ≤ 60; omega⟩
  · cases h; exact ⟨by show (0 : Int) ≤ S.size; omega, by show (S.size : Int) ≤ 100; omega⟩
  · have h2 : (List.replicate 32 ((0 : Int), (0 : Int)))[k]? = some v := h
    have h3 : (List.replicate 32 (0 : Int)).getD k 0 = 0 := by
      rw [List.getD_eq_getElem?_getD, List.getElem?_replicate]; split <;> rfl
    rw [List.getElem?_replicate] at h2
    split at h2
    · cases h2
      show (0 : Int) ≤ (List.replicate 32 (0 : Int)).getD k 0 ∧ (List.replicate 32 (0 : Int)).getD k 0 ≤ 0
      rw [h3]; exact ⟨Int.le_refl _, Int.le_refl _⟩
    · cases h2
theorem cx9_calls {ρ : Env} (hp : PkA ρ) {pre : List (Int × Int)} {K : Int} {m nb : Nat} (hk : Knows ρ (cx9 pre K m nb)) (E : List (Nat × Nat)) : KnowsC Try.prog ρ E (cx9 pre K m nb) :=
  ⟨shC_ok, fun pc hpc f vs v h _ φ w _ => conCt_ok hk.rg hk.ar (fun c hc => by rw [List.mem_singleton.1 hc]; exact packCon_ok hp) hpc h φ w, fun f p u L h => by cases h⟩
theorem dt_go {ρ : Env} {b : List Int} (hb : By32 b) {i n : Nat} (hi : i < n) {pre : List Int} (hm : pre.length = 34) (h0 : pre.getD 0 0 = (n : Int)) : ∃ is bs, dtT.next (ρ.on (st9 pre b i) (bo9 0 b)) = some (is, bs) := by
  have e66 : (ρ.on (st9 pre b i) (bo9 0 b)).i 66 = (i : Int) := st9_i hb hm
  have e67 : (ρ.on (st9 pre b i) (bo9 0 b)).i 67 = sqB b 0 := st9_s0 hb hm
  have e69 : (ρ.on (st9 pre b i) (bo9 0 b)).i 69 = sqB b 16 := st9_s1 hb hm
  have e0 : (ρ.on (st9 pre b i) (bo9 0 b)).i 0 = (n : Int) := by
    show (pre ++ (b ++ _)).getD 0 0 = _
    rw [List.getD_eq_getElem?_getD, List.getElem?_append_left (by omega), ← List.getD_eq_getElem?_getD, h0]
  have b0 : (ρ.on (st9 pre b i) (bo9 0 b)).b 0 = wB b 0 := rfl
  have b1 : (ρ.on (st9 pre b i) (bo9 0 b)).b 1 = wB b 16 := rfl
  have hlt : (i : Int) < n := by omega
  have s0 := sqB_in hb 0
  have s1 := sqB_in hb 16
  simp only [dtT, dtG, RT.next, BE.den, cmpI, IE.den, e66, e0, decide_eq_true hlt, cond_true, b0, b1, ordE, nextE, e67, e69]
  cases wB b 0 <;> cases wB b 16 <;> simp only [cond_true, cond_false]
  · exact ⟨_, _, rfl⟩
  · exact ⟨_, _, rfl⟩
  · exact ⟨_, _, rfl⟩
  · by_cases ho : 0 < IntKind.i32.wrap (arI .sub .u32 (sqB b 16) (sqB b 0))
    · rw [decide_eq_true ho]; exact ⟨_, _, rfl⟩
    · rw [decide_eq_false ho, cond_false]
      have hne : ¬ arI .add .u32 (sqB b 0) 1 = sqB b 16 := by
        intro h
        apply ho
        rw [← h, ord_up s0]
        decide
      rw [show (arI .add .u32 (sqB b 0) 1 == sqB b 16) = false from beq_false_of_ne hne]
      exact ⟨_, _, rfl⟩
include hB in
theorem dt_loop (hn : B.len ≤ 60) (hS : S.size ≤ 100) {cd : Code} (hc : codeAt Try.prog 5 loP = .loop cd) : LoopGoes Try.prog (envOf ([(B.len : Int), (S.size : Int)] ++ dtRun S dr B B.len) [] [] [S] (apD S [dr]) [some B]) [] dtL cd := by
  have hrun : ∀ k, k ≤ B.len → By32 (dtRun S dr B k) := by
    intro k
    induction k with
    | zero => intro _; exact init9 S
    | succ k ih =>
      intro hk
      have hb := ih (by omega)
      obtain ⟨is, bs, h⟩ := dt_go (ρ := en9 S dr B) hb (i := k) (n := B.len) (by omega) (pre := dtPre S B) rfl rfl
      obtain ⟨_, h2, h3, _⟩ := shape_ok (ρ := (en9 S dr B).on (st9 (dtPre S B) (dtRun S dr B k) k) (bo9 0 (dtRun S dr B k))) (by exact pkA_D (S := S) (rows := [dr]) rfl) (m := 34) (fun j h5 h6 => by
        obtain ⟨q, rfl⟩ : ∃ q, j = 34 + q := ⟨j - 34, by omega⟩
        exact st9_byt hb rfl q (by omega)) dt_shape h
      have eb : dtRun S dr B (k + 1) = (is.drop 34).take 32 := by
        show bytesOf ((en9 S dr B).on (st9 (dtPre S B) (dtRun S dr B k) k) (bo9 0 (dtRun S dr B k))) 34 dtT = _
        unfold bytesOf; rw [h]
      rw [eb]; exact ⟨h2, h3⟩
  refine loop9 (m := 34) dt_lpB hc (ρ0 := en9 S dr B) (fun is bs => rfl) (pre := dtPre S B) (b0 := b09 S) rfl (init9 S) B.len ?_ rfl (pkA_D (S := S) (rows := [dr]) rfl)
    (fun b i hb hi => dt_knows hB S hn hS b i hb hi) (fun b i hb hi E => cx9_calls (by exact pkA_D (S := S) (rows := [dr]) rfl) (dt_knows hB S hn hS b i hb hi) E) dt_shape (fun b i hb hi => dt_go hb hi rfl rfl) ?_
  · rfl
  · have hb := hrun B.len (Nat.le_refl _)
    refine ⟨[(B.len : Int), (S.size : Int)] ++ dtRun S dr B B.len, [], ?_, envOf_has _ _ _ _ _ _⟩
    have e66 : ((en9 S dr B).on (st9 (dtPre S B) (dtRun S dr B B.len) B.len) (bo9 0 (dtRun S dr B B.len))).i 66 = (B.len : Int) := st9_i hb rfl
    have e0 : ((en9 S dr B).on (st9 (dtPre S B) (dtRun S dr B B.len) B.len) (bo9 0 (dtRun S dr B B.len))).i 0 = (B.len : Int) := rfl
    have out : ∀ ρ' : Env, ρ'.i 66 = (B.len : Int) → ρ'.i 0 = (B.len : Int) → dtT.out ρ' = some (dens ρ' dtO, []) := by
      intro ρ' h1 h2
      have hlt : ¬ ((B.len : Int) < (B.len : Int)) := by omega
      simp only [dtT, RT.out, BE.den, cmpI, IE.den, h1, h2, decide_eq_false hlt, cond_false]
      rfl
    refine (out _ e66 e0).trans ?_
    unfold dens dtO
    rw [List.map_append, bsE_all (m := 34) hb (show (dtPre S B).length = 34 from rfl)]
    rfl
end
abbrev dtLp : FuncId → List Nat → Nat → Option LoopSum := fun f p _ => if Nat.beq f 5 && decide (p = loP) then some dtL else none
abbrev bigI : Int × Int := (61, 9223372036854775807)
theorem driftTurns_walk {W : World} {v : Value} (hv : IsXs [.int .i64] W v) (S : ByteArray) (hs : S.size ≤ 140737488351232) :
    Calls Try.prog 5 #[v, .string S] W fun e w' => e = .returned (.bool true) ∧ Below W.heap.size W w' := by
  obtain ⟨B, rows, hB⟩ := hv.any
  obtain ⟨dr, rfl⟩ : ∃ dr, rows = [dr] := by
    have := hB.len
    match rows, this with
    | [x], _ => exact ⟨x, rfl⟩
  have hle := hB.le
  have hmax : (B.len : Int) ≤ 9223372036854775807 := by unfold maxLen at hle; omega
  have hp : ∀ is, PkA (envOf is [] [] [S] (apD S [dr]) [some B]) := fun is => pkA_D (S := S) (rows := [dr]) rfl
  have e : ∀ is, SV.denL (envOf is [] [] [S] (apD S [dr]) [some B]) id [.xs 0, .str 0] = [v, .string S] := fun is => by rw [hB.val]; rfl
  by_cases hn : B.len ≤ 60
  · by_cases hS : S.size ≤ 100
    · have hrun : ∀ x ∈ dtRun S dr B B.len, Byt x := by
        intro x hx
        have key : ∀ k, k ≤ B.len → By32 (dtRun S dr B k) := by
          intro k
          induction k with
          | zero => intro _; exact init9 S
          | succ k ih =>
            intro hk
            have hb := ih (by omega)
            obtain ⟨is, bs, h⟩ := dt_go (ρ := en9 S dr B) hb (i := k) (n := B.len) (by omega) (pre := dtPre S B) rfl rfl
            obtain ⟨_, h2, h3, _⟩ := shape_ok (ρ := (en9 S dr B).on (st9 (dtPre S B) (dtRun S dr B k) k) (bo9 0 (dtRun S dr B k))) (by exact pkA_D (S := S) (rows := [dr]) rfl) (m := 34) (fun j h5 h6 => by
              obtain ⟨q, rfl⟩ : ∃ q, j = 34 + q := ⟨j - 34, by omega⟩
              exact st9_byt hb rfl q (by omega)) dt_shape h
            have eb : dtRun S dr B (k + 1) = (is.drop 34).take 32 := by
              show bytesOf ((en9 S dr B).on (st9 (dtPre S B) (dtRun S dr B k) k) (bo9 0 (dtRun S dr B k))) 34 dtT = _
              unfold bytesOf; rw [h]
            rw [eb]; exact ⟨h2, h3⟩
        exact (key B.len (Nat.le_refl _)).byt x hx
      have key := law09 (ρ := envOf ([(B.len : Int), (S.size : Int)] ++ dtRun S dr B B.len) [] [] [S] (apD S [dr]) [some B]) (rg := [(0, 60), (0, 100)] ++ List.replicate 32 byR9) (ar := arT)
        (allIn_of fun k u h => by
          rw [Nat.zero_add]
          rcases k with _ | _ | k
          · cases h; exact ⟨by show (0 : Int) ≤ B.len; omega, by show (B.len : Int) ≤ 60; omega⟩
          · cases h; exact ⟨by show (0 : Int) ≤ S.size; omega, by show (S.size : Int) ≤ 100; omega⟩
          · have h2 : (List.replicate 32 byR9)[k]? = some u := h
            rw [List.getElem?_replicate] at h2
            split at h2
            · cases h2
              show Byt ((dtRun S dr B B.len).getD k 0)
              rw [List.getD_eq_getElem?_getD]
              cases hk : (dtRun S dr B B.len)[k]? with
              | none => exact ⟨Int.le_refl 0, (by decide : (0 : Int) ≤ 255)⟩
              | some x => exact hrun x (List.mem_of_getElem? hk)
            · cases h2) (hp _) (arT_ok (dr_in hB) rfl) (cr := shC) shC_ok (lp := dtLp) ?_ (xs := xs9A) (xs9 (xok9 hB rfl rfl) rfl) (nm := []) (fun p hp' => by cases hp') (ss := ss9A) (sok9 rfl rfl rfl) (nb := []) (fun p hp' => by cases hp') (.leaf (.bool (.lit true))) (n := 2000) (f := 5) (args := [.xs 0, .str 0]) (Tree.ok_of_check (by kernel_rfl)) rfl rfl W (ext9 hB rfl)
      · rw [e] at key; exact key
      · intro f p u L hL cd hcd _
        dsimp only [dtLp] at hL
        split at hL
        · rename_i hfp
          simp only [Bool.and_eq_true, Nat.beq_eq, decide_eq_true_eq] at hfp
          obtain ⟨rfl, rfl⟩ := hfp
          cases hL
          exact dt_loop hB S hn hS hcd
        · cases hL
    · have key := law09 (ρ := envOf [(B.len : Int), (S.size : Int)] [] [] [S] (apD S [dr]) [some B]) (rg := [(0, 60), (101, 9223372036854775807)]) (ar := arT) ⟨⟨by show (0 : Int) ≤ B.len; omega, by show (B.len : Int) ≤ 60; omega⟩, ⟨by show (101 : Int) ≤ S.size; omega, by show (S.size : Int) ≤ 9223372036854775807; omega⟩, trivial⟩ (hp _) (arT_ok (dr_in hB) rfl) (cr := shC) shC_ok noLp (xs := xs9A) (xs9 (xok9 hB rfl rfl) rfl) (nm := []) (fun p hp' => by cases hp') (ss := ss9A) (sok9 rfl rfl rfl) (nb := []) (fun p hp' => by cases hp') (.leaf (.bool (.lit true))) (n := 2000) (f := 5) (args := [.xs 0, .str 0]) (Tree.ok_of_check (by kernel_rfl)) rfl rfl W (ext9 hB rfl)
      rw [e] at key; exact key
  · have key := law09 (ρ := envOf [(B.len : Int), (S.size : Int)] [] [] [S] (apD S [dr]) [some B]) (rg := [(61, 9223372036854775807), (0, 9223372036854775807)]) (ar := arT) ⟨⟨by show (61 : Int) ≤ B.len; omega, hmax⟩, ⟨by show (0 : Int) ≤ S.size; omega, by show (S.size : Int) ≤ 9223372036854775807; omega⟩, trivial⟩ (hp _) (arT_ok (dr_in hB) rfl) (cr := shC) shC_ok noLp (xs := xs9A) (xs9 (xok9 hB rfl rfl) rfl) (nm := []) (fun p hp' => by cases hp') (ss := ss9A) (sok9 rfl rfl rfl) (nb := []) (fun p hp' => by cases hp') (.leaf (.bool (.lit true))) (n := 2000) (f := 5) (args := [.xs 0, .str 0]) (Tree.ok_of_check (by kernel_rfl)) rfl rfl W (ext9 hB rfl)
    rw [e] at key; exact key
end Go.Proofs.Ytlbjcbcaaiggdaa
