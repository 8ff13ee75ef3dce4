/- Law 14: FilterLeast: what holds at the heads of its loops; the walk. -/
import Derived.Test.YthhipnhnpjhaaaaM30
import Derived.Test.YthhipnhnpjhaaaaM31
namespace Go.Proofs.Ythhipnhnpjhaaaa
open Go Go.RowKit Ev
set_option linter.unusedVariables false
set_option linter.unusedSimpArgs false
set_option maxRecDepth 100000
set_option maxHeartbeats 0

noncomputable def flI (len : Nat) (own tot : Int) (rows : List (Int → Int)) (n : Nat) : Int :=
  if n = 0 then (len : Int) else if n = 1 then own else if n = 2 then tot else if n = 3 then ((min len 8 : Nat) : Int) else if n < 44 then sWin rows len (n - 4)
  else if n = 44 then tHr (sWin rows len) (min len 8) 0 0 else if n = 45 then tF (sWin rows len) (min len 8) 0 1 else if n = 46 then tDs (sWin rows len) (min len 8) (fun _ => 0) 9
  else if n = 47 then tJs (sWin rows len) (min len 8) (fun _ => 0) own 9 0 else if n = 48 then tF (sWin rows len) (min len 8) 0 3 else if n = 49 then tHr (sWin rows len) (min len 8) tot 0 else tJs (sWin rows len) (min len 8) (fun _ => 0) own 9 tot
noncomputable def flEv (B : Ext) (own tot : Int) (rows : List (Int → Int)) : Env := { i := flI B.len own tot rows, b := fun n => if n = 0 then true else false, a := apR rows, x := fun n => [some B].getD n none }
section
variable {W : World} {v : Value} {B : Ext} {rows : List (Int → Int)} {own tot : Int}
theorem in0 : InI 0 := ⟨by decide, by decide⟩
theorem in9 : InI 9 := ⟨by decide, by decide⟩
theorem i8_in (ho : -128 ≤ own ∧ own ≤ 127) : InI own := ⟨by omega, by omega⟩
theorem i32_in (ht : -2147483648 ≤ tot ∧ tot ≤ 2147483647) : InI tot := ⟨by omega, by omega⟩
theorem fl_at {k : Nat} (hk : k < 40) : (flEv B own tot rows).i (4 + k) = sWin rows B.len k := by
  show flI B.len own tot rows (4 + k) = _
  unfold flI
  rw [if_neg (by omega), if_neg (by omega), if_neg (by omega), if_neg (by omega), if_pos (by omega), Nat.add_sub_cancel_left]
theorem fl_in (hB : XAny sKs W v B rows) (h0 : 1 ≤ B.len) (hl : B.len ≤ 200) (ho : -128 ≤ own ∧ own ≤ 127) (ht : -2147483648 ≤ tot ∧ tot ≤ 2147483647) : AllIn (flEv B own tot rows).i flRl 0 := by
  have hw : ∀ k, k < 40 → InI (sWin rows B.len k) := fun k _ => sWin_in hB
  refine ⟨?_, ho, ht, ?_, AllIn.rep fun k hk => ?_⟩
  · show (1 : Int) ≤ (B.len : Nat) ∧ ((B.len : Nat) : Int) ≤ 200
    omega
  · show (0 : Int) ≤ ((min B.len 8 : Nat) : Int) ∧ ((min B.len 8 : Nat) : Int) ≤ 8
    omega
  · show InI ((flEv B own tot rows).i (4 + k))
    by_cases h : k < 40
    · rw [fl_at h]; exact sWin_in hB
    · obtain h | h | h | h | h | h | h : k = 40 ∨ k = 41 ∨ k = 42 ∨ k = 43 ∨ k = 44 ∨ k = 45 ∨ k = 46 := by omega
      all_goals subst h
      · exact tHr_in
      · exact tF_in (by omega) (by omega) hw
      · exact tDs_in (by omega)
      · exact tJs_in
      · exact tF_in (by omega) (by omega) hw
      · exact tHr_in
      · exact tJs_in
theorem fl_loop (hB : XAny sKs W v B rows) (h0 : 1 ≤ B.len) (hl : B.len ≤ 200) (ho : -128 ≤ own ∧ own ≤ 127) (ht : -2147483648 ≤ tot ∧ tot ≤ 2147483647) {c : Code} (hc : codeAt Try.prog flF flP = .loop c) (E : List (Nat × Nat)) : LoopGoes Try.prog (flEv B own tot rows) E flL c := by
  have hin := fl_in hB h0 hl ho ht
  refine rt_lpg mixed fl_B hc (ρ := flEv B own tot rows) (fun n is bs => ∃ i : Nat, n + i = B.len ∧ is = (List.range 51).map (flEv B own tot rows).i ++ ((i : Int) :: ((min i 8 : Nat) : Int) :: (List.range 40).map fun k => sWin rows i k) ∧ bs = []) ?_ ?_ ?_ ?_
  · rintro n is bs ⟨i, h1, rfl, rfl⟩
    generalize hρ : (flEv B own tot rows).on ((List.range 51).map (flEv B own tot rows).i ++ ((i : Int) :: ((min i 8 : Nat) : Int) :: (List.range 40).map fun k => sWin rows i k)) [] = ρ'
    have lo : ∀ k, k < 51 → ρ'.i k = (flEv B own tot rows).i k := fun k hk => by rw [← hρ]; exact on_lo hk
    have hi : ρ'.i 51 = (i : Nat) := by rw [← hρ]; exact on_hi 0
    have hm : ρ'.i 52 = ((min i 8 : Nat) : Int) := by rw [← hρ]; exact on_hi 1
    have hv : ∀ k, k < 40 → ρ'.i (53 + k) = sWin rows i k := fun k hk => by rw [← hρ, show 53 + k = 51 + (k + 2) by omega, on_hi, List.getD_cons_succ, List.getD_cons_succ, getD_map hk]
    have ha : ρ'.a = apR rows := by rw [← hρ]; rfl
    have hx : ρ'.x = fun n => [some B].getD n none := by rw [← hρ]; rfl
    refine knows_env rfl ?_ (sArIn hB ha) (xs_one (xok_any hB ha (n := 0) (by rw [lo 0 (by omega)]; rfl)) (by rw [hx]; rfl))
    show AllIn ρ'.i flR 0
    unfold flR
    refine AllIn.app (AllIn.congr (fun k hk => by rw [Nat.zero_add]; exact lo k (by simp [flRl] at hk; omega)) hin) ?_
    refine ⟨?_, ?_, AllIn.rep fun k hk => ?_⟩
    · show (0 : Int) ≤ ρ'.i 51 ∧ ρ'.i 51 ≤ 200
      rw [hi]; omega
    · show (0 : Int) ≤ ρ'.i 52 ∧ ρ'.i 52 ≤ 8
      rw [hm]; omega
    · show _ ≤ ρ'.i (53 + k) ∧ ρ'.i (53 + k) ≤ _
      rw [hv k hk]; exact sWin_in hB
  · rintro n is bs ⟨i, h1, rfl, rfl⟩ E
    generalize hρ : (flEv B own tot rows).on ((List.range 51).map (flEv B own tot rows).i ++ ((i : Int) :: ((min i 8 : Nat) : Int) :: (List.range 40).map fun k => sWin rows i k)) [] = ρ'
    have hi : ρ'.i 51 = (i : Nat) := by rw [← hρ]; exact on_hi 0
    have hm : ρ'.i 52 = ((min i 8 : Nat) : Int) := by rw [← hρ]; exact on_hi 1
    have hv : ∀ k, k < 40 → ρ'.i (53 + k) = sWin rows i k := fun k hk => by rw [← hρ, show 53 + k = 51 + (k + 2) by omega, on_hi, List.getD_cons_succ, List.getD_cons_succ, getD_map hk]
    have ha : ρ'.a = apR rows := by rw [← hρ]; rfl
    refine ⟨fun q hq => ?_, fun pc _ f vs v h => (by cases h), fun f p u L h => (by cases h)⟩
    obtain rfl := List.mem_singleton.1 hq
    refine put_known (m := min i 8) (by omega) hm (fun k h1 h2 => ?_) (fun k hk => ?_) ?_
    · show ρ'.i (53 + k) = 0
      rw [hv k h2]
      exact sWin_zero hB (by omega)
    · show (flN k).den ρ' = if k < 5 then ρ'.a (20 + k) (ρ'.i 51) 0 0 else ρ'.i (53 + (k - 5))
      unfold flN
      split <;> rfl
    · show mnI (ρ'.i 52 + 1) 8 = _
      rw [hm]
      unfold mnI
      split <;> omega
  · refine ⟨B.len, _, _, ⟨0, rfl, rfl, rfl⟩, ?_, List.prefix_rfl⟩
    unfold flE
    rw [dens_app, dens_vrs]
    refine pre_of_eq ?_
    congr 1
    show (0 : Int) :: 0 :: dens _ _ = _
    rw [dens_map]
    refine congrArg _ (congrArg _ (map_range_congr fun k hk => ?_))
    exact (sWin_zero hB (Nat.zero_le _)).symm
  · rintro n is bs ⟨i, h1, rfl, rfl⟩
    generalize hρ : (flEv B own tot rows).on ((List.range 51).map (flEv B own tot rows).i ++ ((i : Int) :: ((min i 8 : Nat) : Int) :: (List.range 40).map fun k => sWin rows i k)) [] = ρ'
    have lo : ∀ k, k < 51 → ρ'.i k = (flEv B own tot rows).i k := fun k hk => by rw [← hρ]; exact on_lo hk
    have hi : ρ'.i 51 = (i : Nat) := by rw [← hρ]; exact on_hi 0
    have hm : ρ'.i 52 = ((min i 8 : Nat) : Int) := by rw [← hρ]; exact on_hi 1
    have hv : ∀ k, k < 40 → ρ'.i (53 + k) = sWin rows i k := fun k hk => by rw [← hρ, show 53 + k = 51 + (k + 2) by omega, on_hi, List.getD_cons_succ, List.getD_cons_succ, getD_map hk]
    have ha : ρ'.a = apR rows := by rw [← hρ]; rfl
    have hn : ρ'.i 0 = (B.len : Nat) := by rw [lo 0 (by omega)]; rfl
    by_cases hlt : i < B.len
    · left
      refine ⟨(vrs 51 ++ (IE.pl .add (.var 51) (.lit 1) :: flM :: (List.range 40).map flN)).map (IE.den ρ'), [], n - 1, _, _, ?_, by omega, ⟨i + 1, by omega, rfl, rfl⟩, ?_, List.prefix_rfl⟩
      · have e : flT.next ρ' = cond (decide (ρ'.i 51 < ρ'.i 0)) (flGo.next ρ') none := rfl
        rw [e, hi, hn, decide_eq_true (by omega), cond_true]
        rfl
      · refine (pre_of_eq (dens_app (ρ := ρ') (vrs 51) _)).trans ?_
        rw [dens_vrs, map_range_congr (fun k hk => lo k hk)]
        refine pre_of_eq ?_
        congr 1
        show (ρ'.i 51 + 1) :: mnI (ρ'.i 52 + 1) 8 :: dens ρ' _ = _
        rw [hi, hm, dens_map]
        refine congr (congrArg _ (by omega)) (congr (congrArg _ ?_) (map_range_congr fun k hk => ?_))
        · unfold mnI
          split <;> omega
        · rw [sWin_next]
          unfold flN
          split
          · show ρ'.a (20 + k) (ρ'.i 51) 0 0 = _
            rw [ha, apR_row, hi]
          · show ρ'.i (53 + (k - 5)) = _
            rw [hv _ (by omega)]
    · right
      obtain rfl : i = B.len := by omega
      have e : flT.out ρ' = cond (decide (ρ'.i 51 < ρ'.i 0)) (flGo.out ρ') (flSt.out ρ') := rfl
      rw [e, hi, hn, decide_eq_false (by omega), cond_false]
      refine ⟨_, _, rfl, ?_⟩
      rw [dens_map]
      refine has_fun (fun k hk => ?_) (fun i x h => by simp [bdens] at h)
      show (flEv B own tot rows).i k = ρ'.i _
      split
      · rw [lo k hk]
      · split
        · rename_i h2
          subst h2
          rw [hm]; rfl
        · split
          · rw [hv _ (by omega), show k = 4 + (k - 4) by omega, fl_at (by omega), Nat.add_sub_cancel_left]
          · rw [lo k hk]
/-- of the samples behind the first ones, each has at least the delay that is told; one has it, and its time -/
theorem fl_least (h0 : 1 ≤ B.len) {x : Int} (h1 : ((B.len : Nat) : Int) - 8 ≤ x) (h2 : 0 ≤ x) (h3 : x < (B.len : Nat)) : tF (sWin rows B.len) (min B.len 8) 0 1 ≤ sRow rows 1 x := by
  have h := tF_min (c := sWin rows B.len) (m := min B.len 8) (by omega) (k := B.len - 1 - x.toNat) (by omega)
  refine Int.le_trans h (Int.le_of_eq ?_)
  unfold sWin
  rw [show (5 * (B.len - 1 - x.toNat) + 1) % 5 = 1 by omega, show (5 * (B.len - 1 - x.toNat) + 1) / 5 = B.len - 1 - x.toNat by omega]
  congr 1; omega
theorem fl_has (h0 : 1 ≤ B.len) : ∃ x : Int, ((B.len : Nat) : Int) - 8 ≤ x ∧ 0 ≤ x ∧ x < (B.len : Nat) ∧ sRow rows 1 x = tF (sWin rows B.len) (min B.len 8) 0 1 ∧ sRow rows 3 x = tF (sWin rows B.len) (min B.len 8) 0 3 := by
  have hp := tP_lt (c := sWin rows B.len) (m := min B.len 8) (by omega)
  refine ⟨(B.len : Int) - 1 - (tP (sWin rows B.len) (min B.len 8) 0 : Nat), by omega, by omega, by omega, ?_, ?_⟩
  · unfold tF sWin
    rw [show (5 * tP (fun k => sRow rows (k % 5) ((B.len : Int) - 1 - ((k / 5 : Nat) : Int))) (min B.len 8) 0 + 1) % 5 = 1 by omega, show (5 * tP (fun k => sRow rows (k % 5) ((B.len : Int) - 1 - ((k / 5 : Nat) : Int))) (min B.len 8) 0 + 1) / 5 = tP (fun k => sRow rows (k % 5) ((B.len : Int) - 1 - ((k / 5 : Nat) : Int))) (min B.len 8) 0 by omega]
  · unfold tF sWin
    rw [show (5 * tP (fun k => sRow rows (k % 5) ((B.len : Int) - 1 - ((k / 5 : Nat) : Int))) (min B.len 8) 0 + 3) % 5 = 3 by omega, show (5 * tP (fun k => sRow rows (k % 5) ((B.len : Int) - 1 - ((k / 5 : Nat) : Int))) (min B.len 8) 0 + 3) / 5 = tP (fun k => sRow rows (k % 5) ((B.len : Int) - 1 - ((k / 5 : Nat) : Int))) (min B.len 8) 0 by omega]
/-- was it there among those ahead of the i-th? -/
noncomputable def fmHad (len : Nat) (rows : List (Int → Int)) (i : Int) : Bool := by classical exact decide (∃ x : Int, ((len : Nat) : Int) - 8 ≤ x ∧ 0 ≤ x ∧ x < i ∧ sRow rows 1 x = tF (sWin rows len) (min len 8) 0 1 ∧ sRow rows 3 x = tF (sWin rows len) (min len 8) 0 3)
theorem fmHad_next {len : Nat} {i : Int} (h1 : ((len : Nat) : Int) - 8 ≤ i) (h2 : 0 ≤ i) : fmHad len rows (i + 1) = (fmHad len rows i || (sRow rows 1 i == tF (sWin rows len) (min len 8) 0 1 && sRow rows 3 i == tF (sWin rows len) (min len 8) 0 3)) := by
  unfold fmHad
  rw [Bool.eq_iff_iff]
  simp only [decide_eq_true_eq, Bool.or_eq_true, Bool.and_eq_true, beq_iff_eq]
  constructor
  · rintro ⟨x, a1, a2, a3, a4, a5⟩
    by_cases hx : x = i
    · subst hx; exact .inr ⟨a4, a5⟩
    · exact .inl ⟨x, a1, a2, by omega, a4, a5⟩
  · rintro (⟨x, a1, a2, a3, a4, a5⟩ | ⟨a4, a5⟩)
    · exact ⟨x, a1, a2, by omega, a4, a5⟩
    · exact ⟨i, h1, h2, by omega, a4, a5⟩
theorem fm_loop (hB : XAny sKs W v B rows) (h0 : 1 ≤ B.len) (hl : B.len ≤ 200) (ho : -128 ≤ own ∧ own ≤ 127) (ht : -2147483648 ≤ tot ∧ tot ≤ 2147483647) {c : Code} (hc : codeAt Try.prog flF fmP = .loop c) (E : List (Nat × Nat)) : LoopGoes Try.prog (flEv B own tot rows) E fmL c := by
  have hin := fl_in hB h0 hl ho ht
  refine rt_lpg mixed fm_B hc (ρ := flEv B own tot rows) (fun n is bs => ∃ i : Nat, n + i = B.len ∧ B.len ≤ i + 8 ∧ is = (List.range 51).map (flEv B own tot rows).i ++ [(i : Int)] ∧ bs = [true, fmHad B.len rows i]) ?_ ?_ ?_ ?_
  · rintro n is bs ⟨i, h1, h2, rfl, rfl⟩
    generalize hρ : (flEv B own tot rows).on ((List.range 51).map (flEv B own tot rows).i ++ [(i : Int)]) [true, fmHad B.len rows i] = ρ'
    have lo : ∀ k, k < 51 → ρ'.i k = (flEv B own tot rows).i k := fun k hk => by rw [← hρ]; exact on_lo hk
    have hi : ρ'.i 51 = (i : Nat) := by rw [← hρ]; exact on_hi 0
    have ha : ρ'.a = apR rows := by rw [← hρ]; rfl
    have hx : ρ'.x = fun n => [some B].getD n none := by rw [← hρ]; rfl
    refine knows_env rfl ?_ (sArIn hB ha) (xs_one (xok_any hB ha (n := 0) (by rw [lo 0 (by omega)]; rfl)) (by rw [hx]; rfl))
    show AllIn ρ'.i (flRl ++ [(0, 200)]) 0
    refine AllIn.app (AllIn.congr (fun k hk => by rw [Nat.zero_add]; exact lo k (by simp [flRl] at hk; omega)) hin) (AllIn.one ?_)
    show (0 : Int) ≤ ρ'.i 51 ∧ ρ'.i 51 ≤ 200
    rw [hi]; omega
  · rintro n is bs ⟨i, h1, h2, rfl, rfl⟩ E
    exact knowsC_none rfl rfl rfl
  · refine ⟨B.len - (B.len - 8), _, _, ⟨B.len - 8, by omega, by omega, rfl, rfl⟩, ?_, ?_⟩
    · unfold fmE
      rw [dens_app, dens_vrs]
      refine pre_of_eq ?_
      congr 1
      show [mxI 0 (((B.len : Nat) : Int) - 8)] = _
      unfold mxI
      split
      · congr 1; omega
      · congr 1; omega
    · refine pre_of_eq ?_
      show [true, false] = [true, fmHad B.len rows _]
      have : fmHad B.len rows ((B.len - 8 : Nat) : Int) = false := by
        unfold fmHad
        rw [decide_eq_false_iff_not]
        rintro ⟨x, a1, a2, a3, _⟩
        omega
      rw [this]
  · rintro n is bs ⟨i, h1, h2, rfl, rfl⟩
    generalize hρ : (flEv B own tot rows).on ((List.range 51).map (flEv B own tot rows).i ++ [(i : Int)]) [true, fmHad B.len rows i] = ρ'
    have lo : ∀ k, k < 51 → ρ'.i k = (flEv B own tot rows).i k := fun k hk => by rw [← hρ]; exact on_lo hk
    have hi : ρ'.i 51 = (i : Nat) := by rw [← hρ]; exact on_hi 0
    have ha : ρ'.a = apR rows := by rw [← hρ]; rfl
    have hn : ρ'.i 0 = (B.len : Nat) := by rw [lo 0 (by omega)]; rfl
    have b0 : ρ'.b 0 = true := by rw [← hρ]; rfl
    have b1 : ρ'.b 1 = fmHad B.len rows i := by rw [← hρ]; rfl
    have d45 : ρ'.i 45 = tF (sWin rows B.len) (min B.len 8) 0 1 := by rw [lo 45 (by omega)]; rfl
    have d48 : ρ'.i 48 = tF (sWin rows B.len) (min B.len 8) 0 3 := by rw [lo 48 (by omega)]; rfl
    by_cases hlt : i < B.len
    · left
      have hd : ∀ t, dens ρ' (vrs 51 ++ [.pl .add (.var 51) (.lit 1)]) = t → t = (List.range 51).map (flEv B own tot rows).i ++ [((i + 1 : Nat) : Int)] := fun t h => by
        rw [← h, dens_app, dens_vrs, map_range_congr (fun k hk => lo k hk)]
        congr 1
        show [ρ'.i 51 + 1] = _
        rw [hi]; rfl
      have hs := fmHad_next (rows := rows) (len := B.len) (i := i) (by omega) (by omega)
      have e : fmT.next ρ' = cond (decide (ρ'.i 51 < ρ'.i 0)) (cond (decide (ρ'.a 21 (ρ'.i 51) 0 0 < ρ'.i 45)) none (cond (ρ'.b 1) (some (dens ρ' (vrs 51 ++ [.pl .add (.var 51) (.lit 1)]), [ρ'.b 0, true])) (cond (ρ'.a 21 (ρ'.i 51) 0 0 == ρ'.i 45) (some (dens ρ' (vrs 51 ++ [.pl .add (.var 51) (.lit 1)]), [ρ'.b 0, ρ'.a 23 (ρ'.i 51) 0 0 == ρ'.i 48])) (some (dens ρ' (vrs 51 ++ [.pl .add (.var 51) (.lit 1)]), [ρ'.b 0, false]))))) none := rfl
      have hle := fl_least (rows := rows) h0 (x := i) (by omega) (by omega) (by omega)
      refine ⟨dens ρ' (vrs 51 ++ [.pl .add (.var 51) (.lit 1)]), [true, fmHad B.len rows ((i + 1 : Nat) : Int)], n - 1, _, _, ?_, by omega, ⟨i + 1, by omega, by omega, rfl, rfl⟩, pre_of_eq (hd _ rfl), List.prefix_rfl⟩
      rw [e, ha, show apR rows 21 (ρ'.i 51) 0 0 = _ from apR_row (c := 1), show apR rows 23 (ρ'.i 51) 0 0 = _ from apR_row (c := 3), hi, hn, d45, d48, b0, b1, decide_eq_true (by omega), cond_true, decide_eq_false (Int.not_lt.2 hle), cond_false]
      rw [show (((i + 1 : Nat) : Int)) = (i : Int) + 1 by omega, hs]
      cases fmHad B.len rows i with
      | true => rfl
      | false =>
        cases (sRow rows 1 i == tF (sWin rows B.len) (min B.len 8) 0 1) <;> rfl
    · right
      obtain rfl : i = B.len := by omega
      have e : fmT.out ρ' = cond (decide (ρ'.i 51 < ρ'.i 0)) (cond (decide (ρ'.a 21 (ρ'.i 51) 0 0 < ρ'.i 45)) none (cond (ρ'.b 1) none (cond (ρ'.a 21 (ρ'.i 51) 0 0 == ρ'.i 45) none none))) (some (dens ρ' (vrs 51), [ρ'.b 1])) := rfl
      rw [e, hi, hn, decide_eq_false (by omega), cond_false]
      refine ⟨_, _, rfl, ?_⟩
      rw [dens_vrs]
      refine has_fun (fun k hk => (lo k hk).symm) (fun i x h => ?_)
      cases i with
      | zero =>
        simp at h
        subst h
        rw [b1]
        show true = fmHad B.len rows B.len
        unfold fmHad
        obtain ⟨x, a1, a2, a3, a4, a5⟩ := fl_has (rows := rows) h0
        classical exact (decide_eq_true (show ∃ x : Int, _ from ⟨x, a1, a2, a3, a4, a5⟩)).symm
      | succ i => simp at h
end
def flW : Tree :=
(.node (.var 0)
 (.node (.cmp .lss (.pl .sub (.var 0) (.lit 1)) (.var 0))
 (.leaf (.bool (.and (.cmp .eql (.var 4) (.ap 20 (.pl .sub (.var 0) (.lit 1)) (.lit 0) (.lit 0))) (.and (.cmp .eql (.var 5) (.ap 21 (.pl .sub (.var 0) (.lit 1)) (.lit 0) (.lit 0))) (.and (.cmp .eql (.var 6) (.ap 22 (.pl .sub (.var 0) (.lit 1)) (.lit 0) (.lit 0))) (.and (.cmp .eql (.var 7) (.ap 23 (.pl .sub (.var 0) (.lit 1)) (.lit 0) (.lit 0))) (.and (.cmp .eql (.var 8) (.ap 24 (.pl .sub (.var 0) (.lit 1)) (.lit 0) (.lit 0))) (.lit true))))))))
 .dead)
 (.leaf (.bool (.lit false))))
theorem filterLeast_walk {v : Value} {own tot : Int} {W : World} (hv : IsXs sKs W v) (ho : -128 ≤ own ∧ own ≤ 127) (ht : -2147483648 ≤ tot ∧ tot ≤ 2147483647) :
    Calls Try.prog flF #[v, .int .i8 own, .int .i32 tot] W fun e w' => e = .returned (.bool true) ∧ Below W.heap.size W w' := by
  obtain ⟨B, rows, hB⟩ := hv.any
  have hval := hB.val
  have hle := hB.le
  have hw : ∀ k, k < 40 → InI (sWin rows B.len k) := fun k _ => sWin_in hB
  by_cases h0 : B.len = 0
  · have h := law_cs (ρ := flEv B own tot rows) (rg := [(0, 0), (-128, 127), (-2147483648, 2147483647)]) (ar := sAr) (args := [.xs 0, .int .i8 (.var 1), .int .i32 (.var 2)]) ⟨by show (0 : Int) ≤ (B.len : Nat) ∧ ((B.len : Nat) : Int) ≤ 0; omega, ho, ht, trivial⟩ (sArIn hB rfl) (cs := []) (fun c hc => by cases hc) (cr := k14) k14_ok LpOk.none (xs := sXs) (xs_one (xok_any hB rfl rfl) rfl) (nm := []) (fun p hp => by cases hp) (nz := false) (.leaf (.bool (.lit true))) (n := 3000) (f := flF) (Tree.ok_of_check (by kernel_rfl)) rfl W (ext_any hB rfl)
    rw [hval]; exact h
  by_cases hl : B.len ≤ 200
  · have h := law_cs (ρ := flEv B own tot rows) (rg := flRl) (ar := sAr) (args := [.xs 0, .int .i8 (.var 1), .int .i32 (.var 2)]) (fl_in hB (by omega) hl ho ht) (sArIn hB rfl) (cs := []) (fun c hc => by cases hc) (cr := flCr ++ k14) (fun q hq => by
        rcases List.mem_append.1 hq with hq | hq
        · have e40 : (fun k => (IE.var (4 + k)).den (flEv B own tot rows)) = fun k => (flEv B own tot rows).i (4 + k) := rfl
          have hc : ∀ k, k < 40 → (IE.var (4 + k)).den (flEv B own tot rows) = sWin rows B.len k := fun k hk => fl_at hk
          simp only [flCr, List.mem_cons, List.not_mem_nil, or_false] at hq
          rcases hq with rfl | rfl
          · exact tell_known2 (c := sWin rows B.len) (m := min B.len 8) (by omega) (by omega) rfl hc hw (fun k _ => in0) (i8_in ho) in9 in0 rfl rfl rfl rfl rfl
          · exact tell_known2 (c := sWin rows B.len) (m := min B.len 8) (by omega) (by omega) rfl hc hw (fun k _ => in0) (i8_in ho) in9 (i32_in ht) rfl rfl rfl rfl rfl
        · exact k14_ok q hq) (lp := flLp2)
      (fun f p u L h c hc _ => by
        unfold flLp2 at h
        split at h
        · rename_i hcc
          simp only [Bool.and_eq_true, Nat.beq_eq, decide_eq_true_eq] at hcc
          obtain ⟨rfl, rfl⟩ := hcc
          cases h
          exact fl_loop hB (by omega) hl ho ht hc []
        · split at h
          · rename_i hcc
            simp only [Bool.and_eq_true, Nat.beq_eq, decide_eq_true_eq] at hcc
            obtain ⟨rfl, rfl⟩ := hcc
            cases h
            exact fm_loop hB (by omega) hl ho ht hc []
          · cases h) (xs := sXs) (xs_one (xok_any hB rfl rfl) rfl) (nm := []) (fun p hp => by cases hp) (nz := false) flW (n := 3000) (f := flF) (Tree.ok_of_check (by kernel_rfl)) ?_ W (ext_any hB rfl)
    · rw [hval]; exact h
    · have a : ∀ c, c < 5 → apR rows (20 + c) (((B.len : Nat) : Int) - 1) 0 0 = (flEv B own tot rows).i (4 + c) := fun c hc => by
        rw [apR_row, fl_at (by omega)]
        unfold sWin
        rw [show c % 5 = c by omega, show c / 5 = 0 by omega]
        congr 1; omega
      show cond true (cond (decide (((B.len : Nat) : Int) - 1 < (B.len : Nat))) ((flEv B own tot rows).i (4 + 0) == apR rows (20 + 0) (((B.len : Nat) : Int) - 1) 0 0 && ((flEv B own tot rows).i (4 + 1) == apR rows (20 + 1) (((B.len : Nat) : Int) - 1) 0 0 && ((flEv B own tot rows).i (4 + 2) == apR rows (20 + 2) (((B.len : Nat) : Int) - 1) 0 0 && ((flEv B own tot rows).i (4 + 3) == apR rows (20 + 3) (((B.len : Nat) : Int) - 1) 0 0 && ((flEv B own tot rows).i (4 + 4) == apR rows (20 + 4) (((B.len : Nat) : Int) - 1) 0 0 && true))))) false) false = true
      rw [a 0 (by omega), a 1 (by omega), a 2 (by omega), a 3 (by omega), a 4 (by omega), decide_eq_true (by omega)]
      simp only [beq_self_eq_true, Bool.and_true, cond_true]
  · have h := law_cs (ρ := flEv B own tot rows) (rg := [(201, 9223372036854775807), (-128, 127), (-2147483648, 2147483647)]) (ar := sAr) (args := [.xs 0, .int .i8 (.var 1), .int .i32 (.var 2)]) ⟨by show (201 : Int) ≤ (B.len : Nat) ∧ ((B.len : Nat) : Int) ≤ 9223372036854775807; unfold maxLen at hle; omega, ho, ht, trivial⟩ (sArIn hB rfl) (cs := []) (fun c hc => by cases hc) (cr := k14) k14_ok LpOk.none (xs := sXs) (xs_one (xok_any hB rfl rfl) rfl) (nm := []) (fun p hp => by cases hp) (nz := false) (.leaf (.bool (.lit true))) (n := 3000) (f := flF) (Tree.ok_of_check (by kernel_rfl)) rfl W (ext_any hB rfl)
    rw [hval]; exact h
end Go.Proofs.Ythhipnhnpjhaaaa
