/- Several texts in one. -/
import Derived.Test.YthhipnhnpjhaaaaM30
import Derived.Test.YthhipnhnpjhaaaaM31
/- Law 14: FilterLeast: what holds at the heads of its loops; the walk. -/
namespace Go.Proofs.Ythhipnhnpjhaaaa
open Go Go.RowKit Ev
set_option linter.unusedVariables false
set_option linter.unusedSimpArgs false
set_option maxRecDepth 100000
set_option maxHeartbeats 0

noncomputable def flI (len : Nat) (own tot : Int) (rows : List (Int → Int)) (n : Nat) : Int :=
  if n = 0 then (len : Int) else if n = 1 then own else if n = 2 then tot else if n = 3 then ((min len 8 : Nat) : Int) else if n < 44 then sWin rows len (n - 4)
  else if n = 44 then tHr (sWin rows len) (min len 8) 0 0 else if n = 45 then tF (sWin rows len) (min len 8) 0 1 else if n = 46 then tDs (sWin rows len) (min len 8) (fun _ => 0) 9
  else if n = 47 then tJs (sWin rows len) (min len 8) (fun _ => 0) own 9 0 else if n = 48 then tF (sWin rows len) (min len 8) 0 3 else if n = 49 then tHr (sWin rows len) (min len 8) tot 0 else tJs (sWin rows len) (min len 8) (fun _ => 0) own 9 tot
noncomputable def flEv (B : Ext) (own tot : Int) (rows : List (Int → Int)) : Env := { i := flI B.len own tot rows, b := fun n => if n = 0 then true else false, a := apR rows, x := fun n => [some B].getD n none }
section
variable {W : World} {v : Value} {B : Ext} {rows : List (Int → Int)} {own tot : Int}
theorem in0 : InI 0 := ⟨by decide, by decide⟩
theorem in9 : InI 9 := ⟨by decide, by decide⟩
theorem i8_in (ho : -128 ≤ own ∧ own ≤ 127) : InI own := ⟨by omega, by omega⟩
theorem i32_in (ht : -2147483648 ≤ tot ∧ tot ≤ 2147483647) : InI tot := ⟨by omega, by omega⟩
theorem fl_at {k : Nat} (hk : k < 40) : (flEv B own tot rows).i (4 + k) = sWin rows B.len k := by
  show flI B.len own tot rows (4 + k) = _
  unfold flI
  rw [if_neg (by omega), if_neg (by omega), if_neg (by omega), if_neg (by omega), if_pos (by omega), Nat.add_sub_cancel_left]
theorem fl_in (hB : XAny sKs W v B rows) (h0 : 1 ≤ B.len) (hl : B.len ≤ 200) (ho : -128 ≤ own ∧ own ≤ 127) (ht : -2147483648 ≤ tot ∧ tot ≤ 2147483647) : AllIn (flEv B own tot rows).i flRl 0 := by
  have hw : ∀ k, k < 40 → InI (sWin rows B.len k) := fun k _ => sWin_in hB
  refine ⟨?_, ho, ht, ?_, AllIn.rep fun k hk => ?_⟩
  · show (1 : Int) ≤ (B.len : Nat) ∧ ((B.len : Nat) : Int) ≤ 200
    omega
  · show (0 : Int) ≤ ((min B.len 8 : Nat) : Int) ∧ ((min B.len 8 : Nat) : Int) ≤ 8
    omega
  · show InI ((flEv B own tot rows).i (4 + k))
    by_cases h : k < 40
    · rw [fl_at h]; exact sWin_in hB
    · obtain h | h | h | h | h | h | h : k = 40 ∨ k = 41 ∨ k = 42 ∨ k = 43 ∨ k = 44 ∨ k = 45 ∨ k = 46 := by omega
      all_goals subst h
      · exact tHr_in
      · exact tF_in (by omega) (by omega) hw
      · exact tDs_in (by omega)
      · exact tJs_in
      · exact tF_in (by omega) (by omega) hw
      · exact tHr_in
      · exact tJs_in
theorem fl_loop (hB : XAny sKs W v B rows) (h0 : 1 ≤ B.len) (hl : B.len ≤ 200) (ho : -128 ≤ own ∧ own ≤ 127) (ht : -2147483648 ≤ tot ∧ tot ≤ 2147483647) {c : Code} (hc : codeAt Try.prog flF flP = .loop c) (E : List (Nat × Nat)) : LoopGoes Try.prog (flEv B own tot rows) E flL c := by
  have hin := fl_in hB h0 hl ho ht
  refine rt_lpg mixed fl_B hc (ρ := flEv B own tot rows) (fun n is bs => ∃ i : Nat, n + i = B.len ∧ is = (List.range 51).map (flEv B own tot rows).i ++ ((i : Int) :: ((min i 8 : Nat) : Int) :: (List.range 40).map fun k => sWin rows i k) ∧ bs = []) ?_ ?_ ?_ ?_
  · rintro n is bs ⟨i, h1, rfl, rfl⟩
    generalize hρ : (flEv B own tot rows).on ((List.range 51).map (flEv B own tot rows).i ++ ((i : Int) :: ((min i 8 : Nat) : Int) :: (List.range 40).map fun k => sWin rows i k)) [] = ρ'
    have lo : ∀ k, k < 51 → ρ'.i k = (flEv B own tot rows).i k := fun k hk => by rw [← hρ]; exact on_lo hk
    have hi : ρ'.i 51 = (i : Nat) := by rw [← hρ]; exact on_hi 0
    have hm : ρ'.i 52 = ((min i 8 : Nat) : Int) := by rw [← hρ]; exact on_hi 1
    have hv : ∀ k, k < 40 → ρ'.i (53 + k) = sWin rows i k := fun k hk => by rw [← hρ, show 53 + k = 51 + (k + 2) by omega, on_hi, List.getD_cons_succ, List.getD_cons_succ, getD_map hk]
    have ha : ρ'.a = apR rows := by rw [← hρ]; rfl
    have hx : ρ'.x = fun n => [some B].getD n none := by rw [← hρ]; rfl
    refine knows_env rfl ?_ (sArIn hB ha) (xs_one (xok_any hB ha (n := 0) (by rw [lo 0 (by omega)]; rfl)) (by rw [hx]; rfl))
    show AllIn ρ'.i flR 0
    unfold flR
    refine AllIn.app (AllIn.congr (fun k hk => by rw [Nat.zero_add]; exact lo k (by simp [flRl] at hk; omega)) hin) ?_
    refine ⟨?_, ?_, AllIn.rep fun k hk => ?_⟩
    · show (0 : Int) ≤ ρ'.i 51 ∧ ρ'.i 51 ≤ 200
      rw [hi]; omega
    · show (0 : Int) ≤ ρ'.i 52 ∧ ρ'.i 52 ≤ 8
      rw [hm]; omega
    · show _ ≤ ρ'.i (53 + k) ∧ ρ'.i (53 + k) ≤ _
      rw [hv k hk]; exact sWin_in hB
  · rintro n is bs ⟨i, h1, rfl, rfl⟩ E
    generalize hρ : (flEv B own tot rows).on ((List.range 51).map (flEv B own tot rows).i ++ ((i : Int) :: ((min i 8 : Nat) : Int) :: (List.range 40).map fun k => sWin rows i k)) [] = ρ'
    have hi : ρ'.i 51 = (i : Nat) := by rw [← hρ]; exact on_hi 0
    have hm : ρ'.i 52 = ((min i 8 : Nat) : Int) := by rw [← hρ]; exact on_hi 1
    have hv : ∀ k, k < 40 → ρ'.i (53 + k) = sWin rows i k := fun k hk => by rw [← hρ, show 53 + k = 51 + (k + 2) by omega, on_hi, List.getD_cons_succ, List.getD_cons_succ, getD_map hk]
    have ha : ρ'.a = apR rows := by rw [← hρ]; rfl
    refine ⟨fun q hq => ?_, fun pc _ f vs v h => (by cases h), fun f p u L h => (by cases h)⟩
    obtain rfl := List.mem_singleton.1 hq
    refine put_known (m := min i 8) (by omega) hm (fun k h1 h2 => ?_) (fun k hk => ?_) ?_
    · show ρ'.i (53 + k) = 0
      rw [hv k h2]
      exact sWin_zero hB (by omega)
    · show (flN k).den ρ' = if k < 5 then ρ'.a (20 + k) (ρ'.i 51) 0 0 else ρ'.i (53 + (k - 5))
      unfold flN
      split <;> rfl
    · show mnI (ρ'.i 52 + 1) 8 = _
      rw [hm]
      unfold mnI
      split <;> omega
  · refine ⟨B.len, _, _, ⟨0, rfl, rfl, rfl⟩, ?_, List.prefix_rfl⟩
    unfold flE
    rw [dens_app, dens_vrs]
    refine pre_of_eq ?_
    congr 1
    show (0 : Int) :: 0 :: dens _ _ = _
    rw [dens_map]
    refine congrArg _ (congrArg _ (map_range_congr fun k hk => ?_))
    exact (sWin_zero hB (Nat.zero_le _)).symm
  · rintro n is bs ⟨i, h1, rfl, rfl⟩
    generalize hρ : (flEv B own tot rows).on ((List.range 51).map (flEv B own tot rows).i ++ ((i : Int) :: ((min i 8 : Nat) : Int) :: (List.range 40).map fun k => sWin rows i k)) [] = ρ'
    have lo : ∀ k, k < 51 → ρ'.i k = (flEv B own tot rows).i k := fun k hk => by rw [← hρ]; exact on_lo hk
    have hi : ρ'.i 51 = (i : Nat) := by rw [← hρ]; exact on_hi 0
    have hm : ρ'.i 52 = ((min i 8 : Nat) : Int) := by rw [← hρ]; exact on_hi 1
    have hv : ∀ k, k < 40 → ρ'.i (53 + k) = sWin rows i k := fun k hk => by rw [← hρ, show 53 + k = 51 + (k + 2) by omega, on_hi, List.getD_cons_succ, List.getD_cons_succ, getD_map hk]
    have ha : ρ'.a = apR rows := by rw [← hρ]; rfl
    have hn : ρ'.i 0 = (B.len : Nat) := by rw [lo 0 (by omega)]; rfl
    by_cases hlt : i < B.len
    · left
      refine ⟨(vrs 51 ++ (IE.pl .add (.var 51) (.lit 1) :: flM :: (List.range 40).map flN)).map (IE.den ρ'), [], n - 1, _, _, ?_, by omega, ⟨i + 1, by omega, rfl, rfl⟩, ?_, List.prefix_rfl⟩
      · have e : flT.next ρ' = cond (decide (ρ'.i 51 < ρ'.i 0)) (flGo.next ρ') none := rfl
        rw [e, hi, hn, decide_eq_true (by omega), cond_true]
        rfl
      · refine (pre_of_eq (dens_app (ρ := ρ') (vrs 51) _)).trans ?_
        rw [dens_vrs, map_range_congr (fun k hk => lo k hk)]
        refine pre_of_eq ?_
        congr 1
        show (ρ'.i 51 + 1) :: mnI (ρ'.i 52 + 1) 8 :: dens ρ' _ = _
        rw [hi, hm, dens_map]
        refine congr (congrArg _ (by omega)) (congr (congrArg _ ?_) (map_range_congr fun k hk => ?_))
        · unfold mnI
          split <;> omega
        · rw [sWin_next]
          unfold flN
          split
          · show ρ'.a (20 + k) (ρ'.i 51) 0 0 = _
            rw [ha, apR_row, hi]
          · show ρ'.i (53 + (k - 5)) = _
            rw [hv _ (by omega)]
    · right
      obtain rfl : i = B.len := by omega
      have e : flT.out ρ' = cond (decide (ρ'.i 51 < ρ'.i 0)) (flGo.out ρ') (flSt.out ρ') := rfl
      rw [e, hi, hn, decide_eq_false (by omega), cond_false]
      refine ⟨_, _, rfl, ?_⟩
      rw [dens_map]
      refine has_fun (fun k hk => ?_) (fun i x h => by simp [bdens] at h)
      show (flEv B own tot rows).i k = ρ'.i _
      split
      · rw [lo k hk]
      · split
        · rename_i h2
          subst h2
          rw [hm]; rfl
        · split
          · rw [hv _ (by omega), show k = 4 + (k - 4) by omega, fl_at (by omega), Nat.add_sub_cancel_left]
          · rw [lo k hk]
/-- of the samples behind the first ones, each has at least the delay that is told; one has it, and its time -/
theorem fl_least (h0 : 1 ≤ B.len) {x : Int} (h1 : ((B.len : Nat) : Int) - 8 ≤ x) (h2 : 0 ≤ x) (h3 : x < (B.len : Nat)) : tF (sWin rows B.len) (min B.len 8) 0 1 ≤ sRow rows 1 x := by
  have h := tF_min (c := sWin rows B.len) (m := min B.len 8) (by omega) (k := B.len - 1 - x.toNat) (by omega)
  refine Int.le_trans h (Int.le_of_eq ?_)
  unfold sWin
  rw [show (5 * (B.len - 1 - x.toNat) + 1) % 5 = 1 by omega, show (5 * (B.len - 1 - x.toNat) + 1) / 5 = B.len - 1 - x.toNat by omega]
  congr 1; omega
theorem fl_has (h0 : 1 ≤ B.len) : ∃ x : Int, ((B.len : Nat) : Int) - 8 ≤ x ∧ 0 ≤ x ∧ x < (B.len : Nat) ∧ sRow rows 1 x = tF (sWin rows B.len) (min B.len 8) 0 1 ∧ sRow rows 3 x = tF (sWin rows B.len) (min B.len 8) 0 3 := by
  have hp := tP_lt (c := sWin rows B.len) (m := min B.len 8) (by omega)
  refine ⟨(B.len : Int) - 1 - (tP (sWin rows B.len) (min B.len 8) 0 : Nat), by omega, by omega, by omega, ?_, ?_⟩
  · unfold tF sWin
    rw [show (5 * tP (fun k => sRow rows (k % 5) ((B.len : Int) - 1 - ((k / 5 : Nat) : Int))) (min B.len 8) 0 + 1) % 5 = 1 by omega, show (5 * tP (fun k => sRow rows (k % 5) ((B.len : Int) - 1 - ((k / 5 : Nat) : Int))) (min B.len 8) 0 + 1) / 5 = tP (fun k => sRow rows (k % 5) ((B.len : Int) - 1 - ((k / 5 : Nat) : Int))) (min B.len 8) 0 by omega]
  · unfold tF sWin
    rw [show (5 * tP (fun k => sRow rows (k % 5) ((B.len : Int) - 1 - ((k / 5 : Nat) : Int))) (min B.len 8) 0 + 3) % 5 = 3 by omega, show (5 * tP (fun k => sRow rows (k % 5) ((B.len : Int) - 1 - ((k / 5 : Nat) : Int))) (min B.len 8) 0 + 3) / 5 = tP (fun k => sRow rows (k % 5) ((B.len : Int) - 1 - ((k / 5 : Nat) : Int))) (min B.len 8) 0 by omega]
/-- was it there among those ahead of the i-th? -/
noncomputable def fmHad (len : Nat) (rows : List (Int → Int)) (i : Int) : Bool := by classical exact decide (∃ x : Int, ((len : Nat) : Int) - 8 ≤ x ∧ 0 ≤ x ∧ x < i ∧ sRow rows 1 x = tF (sWin rows len) (min len 8) 0 1 ∧ sRow rows 3 x = tF (sWin rows len) (min len 8) 0 3)
theorem fmHad_next {len : Nat} {i : Int} (h1 : ((len : Nat) : Int) - 8 ≤ i) (h2 : 0 ≤ i) : fmHad len rows (i + 1) = (fmHad len rows i || (sRow rows 1 i == tF (sWin rows len) (min len 8) 0 1 && sRow rows 3 i == tF (sWin rows len) (min len 8) 0 3)) := by
  unfold fmHad
  rw [Bool.eq_iff_iff]
  simp only [decide_eq_true_eq, Bool.or_eq_true, Bool.and_eq_true, beq_iff_eq]
  constructor
  · rintro ⟨x, a1, a2, a3, a4, a5⟩
    by_cases hx : x = i
    · subst hx; exact .inr ⟨a4, a5⟩
    · exact .inl ⟨x, a1, a2, by omega, a4, a5⟩
  · rintro (⟨x, a1, a2, a3, a4, a5⟩ | ⟨a4, a5⟩)
    · exact ⟨x, a1, a2, by omega, a4, a5⟩
    · exact ⟨i, h1, h2, by omega, a4, a5⟩
theorem fm_loop (hB : XAny sKs W v B rows) (h0 : 1 ≤ B.len) (hl : B.len ≤ 200) (ho : -128 ≤ own ∧ own ≤ 127) (ht : -2147483648 ≤ tot ∧ tot ≤ 2147483647) {c : Code} (hc : codeAt Try.prog flF fmP = .loop c) (E : List (Nat × Nat)) : LoopGoes Try.prog (flEv B own tot rows) E fmL c := by
  have hin := fl_in hB h0 hl ho ht
  refine rt_lpg mixed fm_B hc (ρ := flEv B own tot rows) (fun n is bs => ∃ i : Nat, n + i = B.len ∧ B.len ≤ i + 8 ∧ is = (List.range 51).map (flEv B own tot rows).i ++ [(i : Int)] ∧ bs = [true, fmHad B.len rows i]) ?_ ?_ ?_ ?_
  · rintro n is bs ⟨i, h1, h2, rfl, rfl⟩
    generalize hρ : (flEv B own tot rows).on ((List.range 51).map (flEv B own tot rows).i ++ [(i : Int)]) [true, fmHad B.len rows i] = ρ'
    have lo : ∀ k, k < 51 → ρ'.i k = (flEv B own tot rows).i k := fun k hk => by rw [← hρ]; exact on_lo hk
    have hi : ρ'.i 51 = (i : Nat) := by rw [← hρ]; exact on_hi 0
    have ha : ρ'.a = apR rows := by rw [← hρ]; rfl
    have hx : ρ'.x = fun n => [some B].getD n none := by rw [← hρ]; rfl
    refine knows_env rfl ?_ (sArIn hB ha) (xs_one (xok_any hB ha (n := 0) (by rw [lo 0 (by omega)]; rfl)) (by rw [hx]; rfl))
    show AllIn ρ'.i (flRl ++ [(0, 200)]) 0
    refine AllIn.app (AllIn.congr (fun k hk => by rw [Nat.zero_add]; exact lo k (by simp [flRl] at hk; omega)) hin) (AllIn.one ?_)
    show (0 : Int) ≤ ρ'.i 51 ∧ ρ'.i 51 ≤ 200
    rw [hi]; omega
  · rintro n is bs ⟨i, h1, h2, rfl, rfl⟩ E
    exact knowsC_none rfl rfl rfl
  · refine ⟨B.len - (B.len - 8), _, _, ⟨B.len - 8, by omega, by omega, rfl, rfl⟩, ?_, ?_⟩
    · unfold fmE
      rw [dens_app, dens_vrs]
      refine pre_of_eq ?_
      congr 1
      show [mxI 0 (((B.len : Nat) : Int) - 8)] = _
      unfold mxI
      split
      · congr 1; omega
      · congr 1; omega
    · refine pre_of_eq ?_
      show [true, false] = [true, fmHad B.len rows _]
      have : fmHad B.len rows ((B.len - 8 : Nat) : Int) = false := by
        unfold fmHad
        rw [decide_eq_false_iff_not]
        rintro ⟨x, a1, a2, a3, _⟩
        omega
      rw [this]
  · rintro n is bs ⟨i, h1, h2, rfl, rfl⟩
    generalize hρ : (flEv B own tot rows).on ((List.range 51).map (flEv B own tot rows).i ++ [(i : Int)]) [true, fmHad B.len rows i] = ρ'
    have lo : ∀ k, k < 51 → ρ'.i k = (flEv B own tot rows).i k := fun k hk => by rw [← hρ]; exact on_lo hk
    have hi : ρ'.i 51 = (i : Nat) := by rw [← hρ]; exact on_hi 0
    have ha : ρ'.a = apR rows := by rw [← hρ]; rfl
    have hn : ρ'.i 0 = (B.len : Nat) := by rw [lo 0 (by omega)]; rfl
    have b0 : ρ'.b 0 = true := by rw [← hρ]; rfl
    have b1 : ρ'.b 1 = fmHad B.len rows i := by rw [← hρ]; rfl
    have d45 : ρ'.i 45 = tF (sWin rows B.len) (min B.len 8) 0 1 := by rw [lo 45 (by omega)]; rfl
    have d48 : ρ'.i 48 = tF (sWin rows B.len) (min B.len 8) 0 3 := by rw [lo 48 (by omega)]; rfl
    by_cases hlt : i < B.len
    · left
      have hd : ∀ t, dens ρ' (vrs 51 ++ [.pl .add (.var 51) (.lit 1)]) = t → t = (List.range 51).map (flEv B own tot rows).i ++ [((i + 1 : Nat) : Int)] := fun t h => by
        rw [← h, dens_app, dens_vrs, map_range_congr (fun k hk => lo k hk)]
        congr 1
        show [ρ'.i 51 + 1] = _
        rw [hi]; rfl
      have hs := fmHad_next (rows := rows) (len := B.len) (i := i) (by omega) (by omega)
      have e : fmT.next ρ' = cond (decide (ρ'.i 51 < ρ'.i 0)) (cond (decide (ρ'.a 21 (ρ'.i 51) 0 0 < ρ'.i 45)) none (cond (ρ'.b 1) (some (dens ρ' (vrs 51 ++ [.pl .add (.var 51) (.lit 1)]), [ρ'.b 0, true])) (cond (ρ'.a 21 (ρ'.i 51) 0 0 == ρ'.i 45) (some (dens ρ' (vrs 51 ++ [.pl .add (.var 51) (.lit 1)]), [ρ'.b 0, ρ'.a 23 (ρ'.i 51) 0 0 == ρ'.i 48])) (some (dens ρ' (vrs 51 ++ [.pl .add (.var 51) (.lit 1)]), [ρ'.b 0, false]))))) none := rfl
      have hle := fl_least (rows := rows) h0 (x := i) (by omega) (by omega) (by omega)
      refine ⟨dens ρ' (vrs 51 ++ [.pl .add (.var 51) (.lit 1)]), [true, fmHad B.len rows ((i + 1 : Nat) : Int)], n - 1, _, _, ?_, by omega, ⟨i + 1, by omega, by omega, rfl, rfl⟩, pre_of_eq (hd _ rfl), List.prefix_rfl⟩
      rw [e, ha, show apR rows 21 (ρ'.i 51) 0 0 = _ from apR_row (c := 1), show apR rows 23 (ρ'.i 51) 0 0 = _ from apR_row (c := 3), hi, hn, d45, d48, b0, b1, decide_eq_true (by omega), cond_true, decide_eq_false (Int.not_lt.2 hle), cond_false]
      rw [show (((i + 1 : Nat) : Int)) = (i : Int) + 1 by omega, hs]
      cases fmHad B.len rows i with
      | true => rfl
      | false =>
        cases (sRow rows 1 i == tF (sWin rows B.len) (min B.len 8) 0 1) <;> rfl
    · right
      obtain rfl : i = B.len := by omega
      have e : fmT.out ρ' = cond (decide (ρ'.i 51 < ρ'.i 0)) (cond (decide (ρ'.a 21 (ρ'.i 51) 0 0 < ρ'.i 45)) none (cond (ρ'.b 1) none (cond (ρ'.a 21 (ρ'.i 51) 0 0 == ρ'.i 45) none none))) (some (dens ρ' (vrs 51), [ρ'.b 1])) := rfl
      rw [e, hi, hn, decide_eq_false (by omega), cond_false]
      refine ⟨_, _, rfl, ?_⟩
      rw [dens_vrs]
      refine has_fun (fun k hk => (lo k hk).symm) (fun i x h => ?_)
      cases i with
      | zero =>
        simp at h
        subst h
        rw [b1]
        show true = fmHad B.len rows B.len
        unfold fmHad
        obtain ⟨x, a1, a2, a3, a4, a5⟩ := fl_has (rows := rows) h0
        classical exact (decide_eq_true (show ∃ x : Int, _ from ⟨x, a1, a2, a3, a4, a5⟩)).symm
      | succ i => simp at h
end
def flW : Tree :=
(.node (.var 0)
 (.node (.cmp .lss (.pl .sub (.var 0) (.lit 1)) (.var 0))
 (.leaf (.bool (.and (.cmp .eql (.var 4) (.ap 20 (.pl .sub (.var 0) (.lit 1)) (.lit 0) (.lit 0))) (.and (.cmp .eql (.var 5) (.ap 21 (.pl .sub (.var 0) (.lit 1)) (.lit 0) (.lit 0))) (.and (.cmp .eql (.var 6) (.ap 22 (.pl .sub (.var 0) (.lit 1)) (.lit 0) (.lit 0))) (.and (.cmp .eql (.var 7) (.ap 23 (.pl .sub (.var 0) (.lit 1)) (.lit 0) (.lit 0))) (.and (.cmp .eql (.var 8) (.ap 24 (.pl .sub (.var 0) (.lit 1)) (.lit 0) (.lit 0))) (.lit true))))))))
 .dead)
 (.leaf (.bool (.lit false))))
theorem filterLeast_walk {v : Value} {own tot : Int} {W : World} (hv : IsXs sKs W v) (ho : -128 ≤ own ∧ own ≤ 127) (ht : -2147483648 ≤ tot ∧ tot ≤ 2147483647) :
    Calls Try.prog flF #[v, .int .i8 own, .int .i32 tot] W fun e w' => e = .returned (.bool true) ∧ Below W.heap.size W w' := by
  obtain ⟨B, rows, hB⟩ := hv.any
  have hval := hB.val
  have hle := hB.le
  have hw : ∀ k, k < 40 → InI (sWin rows B.len k) := fun k _ => sWin_in hB
  by_cases h0 : B.len = 0
  · have h := law_cs (ρ := flEv B own tot rows) (rg := [(0, 0), (-128, 127), (-2147483648, 2147483647)]) (ar := sAr) (args := [.xs 0, .int .i8 (.var 1), .int .i32 (.var 2)]) ⟨by show (0 : Int) ≤ (B.len : Nat) ∧ ((B.len : Nat) : Int) ≤ 0; omega, ho, ht, trivial⟩ (sArIn hB rfl) (cs := []) (fun c hc => by cases hc) (cr := k14) k14_ok LpOk.none (xs := sXs) (xs_one (xok_any hB rfl rfl) rfl) (nm := []) (fun p hp => by cases hp) (nz := false) (.leaf (.bool (.lit true))) (n := 3000) (f := flF) (Tree.ok_of_check (by kernel_rfl)) rfl W (ext_any hB rfl)
    rw [hval]; exact h
  by_cases hl : B.len ≤ 200
  · have h := law_cs (ρ := flEv B own tot rows) (rg := flRl) (ar := sAr) (args := [.xs 0, .int .i8 (.var 1), .int .i32 (.var 2)]) (fl_in hB (by omega) hl ho ht) (sArIn hB rfl) (cs := []) (fun c hc => by cases hc) (cr := flCr ++ k14) (fun q hq => by
        rcases List.mem_append.1 hq with hq | hq
        · have e40 : (fun k => (IE.var (4 + k)).den (flEv B own tot rows)) = fun k => (flEv B own tot rows).i (4 + k) := rfl
          have hc : ∀ k, k < 40 → (IE.var (4 + k)).den (flEv B own tot rows) = sWin rows B.len k := fun k hk => fl_at hk
          simp only [flCr, List.mem_cons, List.not_mem_nil, or_false] at hq
          rcases hq with rfl | rfl
          · exact tell_known2 (c := sWin rows B.len) (m := min B.len 8) (by omega) (by omega) rfl hc hw (fun k _ => in0) (i8_in ho) in9 in0 rfl rfl rfl rfl rfl
          · exact tell_known2 (c := sWin rows B.len) (m := min B.len 8) (by omega) (by omega) rfl hc hw (fun k _ => in0) (i8_in ho) in9 (i32_in ht) rfl rfl rfl rfl rfl
        · exact k14_ok q hq) (lp := flLp2)
      (fun f p u L h c hc _ => by
        unfold flLp2 at h
        split at h
        · rename_i hcc
          simp only [Bool.and_eq_true, Nat.beq_eq, decide_eq_true_eq] at hcc
          obtain ⟨rfl, rfl⟩ := hcc
          cases h
          exact fl_loop hB (by omega) hl ho ht hc []
        · split at h
          · rename_i hcc
            simp only [Bool.and_eq_true, Nat.beq_eq, decide_eq_true_eq] at hcc
            obtain ⟨rfl, rfl⟩ := hcc
            cases h
            exact fm_loop hB (by omega) hl ho ht hc []
          · cases h) (xs := sXs) (xs_one (xok_any hB rfl rfl) rfl) (nm := []) (fun p hp => by cases hp) (nz := false) flW (n := 3000) (f := flF) (Tree.ok_of_check (by kernel_rfl)) ?_ W (ext_any hB rfl)
    · rw [hval]; exact h
    · have a : ∀ c, c < 5 → apR rows (20 + c) (((B.len : Nat) : Int) - 1) 0 0 = (flEv B own tot rows).i (4 + c) := fun c hc => by
        rw [apR_row, fl_at (by omega)]
        unfold sWin
        rw [show c % 5 = c by omega, show c / 5 = 0 by omega]
        congr 1; omega
      show cond true (cond (decide (((B.len : Nat) : Int) - 1 < (B.len : Nat))) ((flEv B own tot rows).i (4 + 0) == apR rows (20 + 0) (((B.len : Nat) : Int) - 1) 0 0 && ((flEv B own tot rows).i (4 + 1) == apR rows (20 + 1) (((B.len : Nat) : Int) - 1) 0 0 && ((flEv B own tot rows).i (4 + 2) == apR rows (20 + 2) (((B.len : Nat) : Int) - 1) 0 0 && ((flEv B own tot rows).i (4 + 3) == apR rows (20 + 3) (((B.len : Nat) : Int) - 1) 0 0 && ((flEv B own tot rows).i (4 + 4) == apR rows (20 + 4) (((B.len : Nat) : Int) - 1) 0 0 && true))))) false) false = true
      rw [a 0 (by omega), a 1 (by omega), a 2 (by omega), a 3 (by omega), a 4 (by omega), decide_eq_true (by omega)]
      simp only [beq_self_eq_true, Bool.and_true, cond_true]
  · have h := law_cs (ρ := flEv B own tot rows) (rg := [(201, 9223372036854775807), (-128, 127), (-2147483648, 2147483647)]) (ar := sAr) (args := [.xs 0, .int .i8 (.var 1), .int .i32 (.var 2)]) ⟨by show (201 : Int) ≤ (B.len : Nat) ∧ ((B.len : Nat) : Int) ≤ 9223372036854775807; unfold maxLen at hle; omega, ho, ht, trivial⟩ (sArIn hB rfl) (cs := []) (fun c hc => by cases hc) (cr := k14) k14_ok LpOk.none (xs := sXs) (xs_one (xok_any hB rfl rfl) rfl) (nm := []) (fun p hp => by cases hp) (nz := false) (.leaf (.bool (.lit true))) (n := 3000) (f := flF) (Tree.ok_of_check (by kernel_rfl)) rfl W (ext_any hB rfl)
    rw [hval]; exact h
end Go.Proofs.Ythhipnhnpjhaaaa
/- Law 14: FilterOnce: its loop, as the evaluator has it. -/
namespace Go.Proofs.Ythhipnhnpjhaaaa
open Go Go.RowKit Ev
set_option linter.unusedVariables false
set_option linter.unusedSimpArgs false
set_option maxRecDepth 100000
set_option maxHeartbeats 0

abbrev foF : FuncId := 3
abbrev foP : List Nat := [0, 1, 0, 1, 1, 1, 1, 1]
abbrev foXs : List XD := [⟨0, 20, sKs⟩, ⟨1, 25, [.int .u16]⟩]
abbrev foAr : List (Int × Int) := arN ++ [i64I, i64I, i64I, i64I, i64I, (0, 65535)]
def foTm (t6 t7 t8 : SV) : List SV := [.xs 0, .xs 1, .any, .any, .bool (.lit false), .ptr 1048591 0, t6, t7, t8] ++ List.replicate 89 .any
def foU (u o j : IE) (k : Nat) : IE := if k = 0 then u else if k = 1 then o else if k = 2 then .lit 0 else j
def foBl (e : Nat → IE) (em : IE) (b : BE) (u o j : IE) : List (Nat × Blk) := [(1048591, ⟨29, filS e em b (foU u o j)⟩)]
/-- the law's numbers: the lengths; Many, Used, Offset, Jitter behind the loop; the cells -/
def foL : LoopSum := ⟨foTm (.int .i64 (.lit 0)) (.int .i64 (.lit (-1))) (.int .i64 (.lit 0)), foBl (fun _ => .lit 0) (.lit 0) (.lit false) (.lit 0) (.lit 0) (.lit 0), .exit 0, foTm .any .any .any, foBl (fun k => .var (6 + k)) (.var 2) (.var 0) (.var 3) (.var 4) (.var 5)⟩
/-- the head's: the place, Many, Used, Offset, Jitter, now, last, the cells -/
def foH : St := ⟨Tm.ofL (foTm (.int .i64 (.var 51)) (.int .i64 (.var 52)) (.int .i64 (.var 46))), foBl (fun k => .var (53 + k)) (.var 47) (.var 1) (.var 48) (.var 49) (.var 50)⟩
def foE : List IE := vrs 46 ++ (.lit 0 :: .lit 0 :: .lit 0 :: .lit 0 :: .lit 0 :: .lit 0 :: .lit (-1) :: (List.range 40).map fun _ => .lit 0)
def foRl : List (Int × Int) := (0, 200) :: (0, 200) :: (0, 8) :: List.replicate 43 i64I
/-- behind the head's numbers: what is told with a gap, and with none: Offset, Delay, Disp, Jitter, At; Disp and Jitter told again -/
def foTR : List (Int × Int) := [i64I, i64I, i64I, i64I, (0, 13172535), i64I, i64I]
def foR : List (Int × Int) := foRl ++ ((0, 200) :: (0, 8) :: i64I :: i64I :: i64I :: (0, 13107000) :: (-1, 13107000) :: (List.replicate 40 i64I ++ (foTR ++ foTR)))
def foM : IE := .mn (.pl .add (.var 47) (.lit 1)) (.lit 8)
def foNow : IE := .pl .add (.var 51) (.ap 25 (.var 46) (.lit 0) (.lit 0))
def foS (a : IE) (k : Nat) : IE := if k = 3 then a else .ap (20 + k) (.var 46) (.lit 0) (.lit 0)
def foN (a : IE) (k : Nat) : IE := if k < 5 then foS a k else .var (53 + (k - 5))
def foPut (a : IE) : FuncId × List SV × SV := (15, [.agg (filS (fun k => .var (53 + k)) (.var 47) (.var 1) (foU (.var 48) (.var 49) (.var 50))), .agg (samS (foS a))], .agg (filS (foN a) foM (.var 1) (foU (.var 48) (.var 49) (.var 50))))
def foTell (a : IE) (r : Nat) : FuncId × List SV × SV := (18, [stdS, .agg (filS (foN a) foM (.var 1) (foU (.var 48) (.var 49) (.var 50))), .int .i64 (.lit (-20)), .int .i64 a, .int .i64 (.lit 0)], .tuple [.agg [.int .i64 (.var r), .int .i64 (.var (r + 1)), .int .i64 (.var (r + 2)), .int .i64 (.var (r + 3)), .int .i64 (.var (r + 4))], .bool (.lit true)])
def foTell2 (a : IE) (r : Nat) : FuncId × List SV × SV := (18, [stdS, .agg (filS (foN a) foM (.lit true) (foU (.var (r + 4)) (.var r) (.var (r + 3)))), .int .i64 (.lit (-20)), .int .i64 a, .int .i64 (.lit 0)], .tuple [.agg [.int .i64 (.var r), .int .i64 (.var (r + 1)), .int .i64 (.var (r + 5)), .int .i64 (.var (r + 6)), .int .i64 (.var (r + 4))], .bool (.lit true)])
def foCr : List (FuncId × List SV × SV) := [foPut foNow, foPut (.var 51), foTell foNow 93, foTell2 foNow 93, foTell (.var 51) 100, foTell2 (.var 51) 100, (17, [], stdS)]
noncomputable def foX : Ctx := { pc := [], cr := foCr, rg := foR, ar := foAr, ct := conCt foR foAr consN, xs := foXs }
def foGo (a : IE) : RT := .go (vrs 46 ++ (.pl .add (.var 46) (.lit 1) :: foM :: .var 48 :: .var 49 :: .var 50 :: a :: .var 52 :: (List.range 40).map (foN a))) [.var 0, .var 1]
def foGo2 (a : IE) (r : Nat) : RT := .go (vrs 46 ++ (.pl .add (.var 46) (.lit 1) :: foM :: .var (r + 4) :: .var r :: .var (r + 3) :: a :: .var (r + 4) :: (List.range 40).map (foN a))) [.var 0, .lit true]
def foOk (a : IE) (r : Nat) : RT := .node (.cmp .lss (.var 52) (.var (r + 4))) (.node (.cmp .lss a (.var (r + 4))) .dead (foGo2 a r)) .dead
def foC1 (r : Nat) : BE := .cmp .lss (.ap 1 (.ap 1 (.var 50) (.var 50) (.lit 0)) (.var 50) (.lit 0)) (.ap 11 (.ap 2 (.var r) (.ap 2 (.var 49) (.lit 0) (.lit 0)) (.lit 0)) (.lit 0) (.lit 0))
def foC2 (a : IE) : BE := .cmp .lss (.ap 2 a (.var 48) (.lit 0)) (.lit 549755813888)
def foG (a : IE) (r : Nat) : RT := .node (.var 1) (.node (.cmp .lss (.var 48) (.var (r + 4))) (.node (foC1 r) (.node (foC2 a) (foGo a) (foOk a r)) (foOk a r)) (foGo a)) (foOk a r)
def foSt : RT := .stop ((List.range 46).map fun n => .var (if n < 2 then n else if n < 6 then 45 + n else 53 + (n - 6))) [.var 1]
def foT : RT := .node (.cmp .lss (.var 46) (.var 0)) (.node (.cmp .lss (.var 46) (.var 1)) (foG foNow 93) (foG (.var 51) 100)) foSt
theorem fo_B : lpB Try.prog foX 3000 foF foP 3 foL foH foT foE [.var 0, .lit false] = true := by kernel_rfl
end Go.Proofs.Ythhipnhnpjhaaaa
/- Law 14: FilterOnce: what holds at its loop's head; the walk. -/
namespace Go.Proofs.Ythhipnhnpjhaaaa
open Go Go.RowKit Ev
set_option linter.unusedVariables false
set_option linter.unusedSimpArgs false
set_option maxRecDepth 100000
set_option maxHeartbeats 0

/-! two slices of the caller's -/
theorem xok_off {ks : List EK} {W : World} {v : Value} {B : Ext} {rows : List (Int → Int)} (h : XAny ks W v B rows) {ρ : Env} {all : List (Int → Int)} (ha : ρ.a = apR all) {o : Nat} (ho : ∀ c, c < ks.length → all.getD (o + c) (fun _ => 0) = rows.getD c (fun _ => 0)) {n : Nat} (hn : ρ.i n = B.len) : XOk ρ ⟨n, 20 + o, ks⟩ (some B) := by
  refine ⟨hn, h.sz, h.emp, fun i c k hi hk => ?_⟩
  rw [h.cells i c k hi hk]
  have hc := (List.getElem?_eq_some_iff.1 hk).1
  have e := ho c hc
  cases k <;> simp only [ekV, cellV, ha, apR, if_neg (show ¬ 20 + o + c < 20 by omega), show 20 + o + c - 20 = o + c by omega, e]
theorem xs_two {ρ : Env} {d e : XD} {o p : Option Ext} (h : XOk ρ d o) (k : XOk ρ e p) (hx : ρ.x 0 = o) (hy : ρ.x 1 = p) : ∀ (j : Nat) d', [d, e][j]? = some d' → XOk ρ d' (ρ.x j)
  | 0, d', hj => by cases hj; rw [hx]; exact h
  | 1, d', hj => by cases hj; rw [hy]; exact k
  | j + 2, d', hj => by simp at hj
theorem ext_two {ks ls : List EK} {W : World} {v u : Value} {B C : Ext} {rows cols : List (Int → Int)} (h : XAny ks W v B rows) (k : XAny ls W u C cols) {ρ : Env} (hx : ρ.x = fun n => [some B, some C].getD n none) : ExtIn ρ W := by
  intro j B' hB
  unfold Env.y at hB
  rw [hx] at hB
  match j with
  | 0 =>
    simp only [List.getD_cons_zero] at hB
    cases hem : B.em with
    | none => rw [hem] at hB; cases hB; exact h.heap hem
    | some q => rw [hem] at hB; cases hB
  | 1 =>
    simp only [List.getD_cons_succ, List.getD_cons_zero] at hB
    cases hem : C.em with
    | none => rw [hem] at hB; cases hB; exact k.heap hem
    | some q => rw [hem] at hB; cases hB
  | j + 2 => simp at hB
theorem getD_left {α : Type} {a b : List α} {d : α} {c : Nat} (h : c < a.length) : (a ++ b).getD (0 + c) d = a.getD c d := by
  rw [Nat.zero_add, List.getD_eq_getElem?_getD, List.getElem?_append_left h, List.getD_eq_getElem?_getD]
theorem getD_right {α : Type} {a b : List α} {d : α} {o c : Nat} (h : a.length = o) : (a ++ b).getD (o + c) d = b.getD c d := by
  rw [List.getD_eq_getElem?_getD, List.getElem?_append_right (by omega), List.getD_eq_getElem?_getD]
  congr 2; omega

section
variable {W : World} {v v1 : Value} {B C : Ext} {rows cols : List (Int → Int)}
theorem foRow_in (hB : XAny sKs W v B rows) (hC : XAny [.int .u16] W v1 C cols) : ∀ (i : Nat) v, ([i64I, i64I, i64I, i64I, i64I, (0, 65535)] : List (Int × Int))[i]? = some v → ∀ a, v.1 ≤ ((rows ++ cols).getD i (fun _ => 0)) a ∧ ((rows ++ cols).getD i (fun _ => 0)) a ≤ v.2 := by
  intro i v hv a
  by_cases h : i < 5
  · have e := getD_left (a := rows) (b := cols) (d := fun _ => 0) (c := i) (by rw [hB.len]; exact h)
    rw [Nat.zero_add] at e
    rw [e]
    have hv' : v = i64I := by
      match i, h with
      | 0, _ => cases hv; rfl
      | 1, _ => cases hv; rfl
      | 2, _ => cases hv; rfl
      | 3, _ => cases hv; rfl
      | 4, _ => cases hv; rfl
    subst hv'
    exact sRow_in hB h a
  · have hi : i = 5 := by
      have := (List.getElem?_eq_some_iff.1 hv).1
      simp at this; omega
    subst hi
    have e := getD_right (a := rows) (b := cols) (d := fun _ => 0) (o := 5) (c := 0) hB.len
    rw [Nat.add_zero] at e
    rw [e]
    cases hv
    exact hC.rg 0 (0, 65535) rfl a
theorem foArIn (hB : XAny sKs W v B rows) (hC : XAny [.int .u16] W v1 C cols) {ρ : Env} (ha : ρ.a = apR (rows ++ cols)) : ArIn ρ foAr := arIn_R ha (foRow_in hB hC)
theorem foXok (hB : XAny sKs W v B rows) (hC : XAny [.int .u16] W v1 C cols) {ρ : Env} (ha : ρ.a = apR (rows ++ cols)) (hx : ρ.x = fun n => [some B, some C].getD n none) (h0 : ρ.i 0 = B.len) (h1 : ρ.i 1 = C.len) : ∀ (j : Nat) d, foXs[j]? = some d → XOk ρ d (ρ.x j) :=
  xs_two (xok_off hB ha (o := 0) (fun c hc => getD_left (by rw [hB.len]; exact hc)) h0) (xok_off hC ha (o := 5) (fun c hc => getD_right hB.len) h1) (by rw [hx]; rfl) (by rw [hx]; rfl)
end

/-- the filter's cells behind the i-th sample, that comes at a -/
def foWin (all : List (Int → Int)) (c : Nat → Int) (i : Nat) (a : Int) (k : Nat) : Int := if k < 5 then (if k = 3 then a else sRow all k (i : Int)) else c (k - 5)
/-- what is told then, and told again -/
noncomputable def foTold (w : Nat → Int) (m : Nat) (used off jit a : Int) : List Int :=
  let u : Nat → Int := fun k => if k = 0 then used else if k = 1 then off else if k = 2 then 0 else jit
  let u2 : Nat → Int := fun k => if k = 0 then tF w m 0 3 else if k = 1 then tHr w m 0 0 else if k = 2 then 0 else tJs w m u (-20) a 0
  [tHr w m 0 0, tF w m 0 1, tDs w m u a, tJs w m u (-20) a 0, tF w m 0 3, tDs w m u2 a, tJs w m u2 (-20) a 0]
/-- what holds at the head -/
structure foSt0 (i : Nat) (c : Nat → Int) (had : Bool) (used off jit now last : Int) : Prop where
  xc : ∀ k, k < 40 → InI (c k)
  xz : ∀ k, 5 * min i 8 ≤ k → k < 40 → c k = 0
  xa : ∀ k, k < min i 8 → 0 ≤ c (5 * k + 3) ∧ c (5 * k + 3) ≤ now
  xn : 0 ≤ now ∧ now ≤ i * 65535
  xu : InI used ∧ InI off ∧ InI jit
  xl : last = if had then used else -1
  xh : had = true → 0 ≤ used ∧ used ≤ now
section
variable {all : List (Int → Int)} {i : Nat} {c : Nat → Int} {had : Bool} {used off jit now last a : Int}
theorem foWin_in (hr : ∀ k, k < 5 → ∀ a, InI (sRow all k a)) (h : foSt0 i c had used off jit now last) (ha : InI a) {k : Nat} (hk : k < 40) : InI (foWin all c i a k) := by
  unfold foWin
  split
  · split
    · exact ha
    · exact hr k (by omega) _
  · exact h.xc _ (by omega)
theorem foWin_z (h : foSt0 i c had used off jit now last) {k : Nat} (h1 : 5 * min (i + 1) 8 ≤ k) (hk : k < 40) : foWin all c i a k = 0 := by
  unfold foWin
  rw [if_neg (by omega)]
  exact h.xz _ (by omega) (by omega)
theorem foWin_at (h : foSt0 i c had used off jit now last) (h1 : now ≤ a) {k : Nat} (hk : k < min (i + 1) 8) : 0 ≤ foWin all c i a (5 * k + 3) ∧ foWin all c i a (5 * k + 3) ≤ a := by
  unfold foWin
  have := h.xn
  by_cases h0 : k = 0
  · subst h0; rw [if_pos (by omega), if_pos rfl]; omega
  · rw [if_neg (by omega), show 5 * k + 3 - 5 = 5 * (k - 1) + 3 by omega]
    have := h.xa (k - 1) (by omega)
    omega
theorem foTold_at (h : foSt0 i c had used off jit now last) (h1 : now ≤ a) : 0 ≤ tF (foWin all c i a) (min (i + 1) 8) 0 3 ∧ tF (foWin all c i a) (min (i + 1) 8) 0 3 ≤ a := by
  unfold tF
  exact foWin_at h h1 (tP_lt (by omega))
end
noncomputable def foIs (all : List (Int → Int)) (i : Nat) (c : Nat → Int) (used off jit now last : Int) : List Int :=
  ((i : Int) :: ((min i 8 : Nat) : Int) :: used :: off :: jit :: now :: last :: ((List.range 40).map c ++ (foTold (foWin all c i (now + sRow all 5 i)) (min (i + 1) 8) used off jit (now + sRow all 5 i) ++ foTold (foWin all c i now) (min (i + 1) 8) used off jit now)))
theorem foIs_get {all : List (Int → Int)} {i : Nat} {c : Nat → Int} {used off jit now last : Int} {t : Nat} (h : t < 7) : (foIs all i c used off jit now last).getD (47 + t) 0 = (foTold (foWin all c i (now + sRow all 5 i)) (min (i + 1) 8) used off jit (now + sRow all 5 i)).getD t 0 ∧ (foIs all i c used off jit now last).getD (54 + t) 0 = (foTold (foWin all c i now) (min (i + 1) 8) used off jit now).getD t 0 := by
  unfold foIs
  constructor
  · rw [show 47 + t = 40 + t + 1 + 1 + 1 + 1 + 1 + 1 + 1 by omega]
    simp only [List.getD_cons_succ]
    rw [List.getD_eq_getElem?_getD, List.getElem?_append_right (by simp), List.getElem?_append_left (by simp [foTold]; omega), List.getD_eq_getElem?_getD]
    simp
  · rw [show 54 + t = 40 + (7 + t) + 1 + 1 + 1 + 1 + 1 + 1 + 1 by omega]
    simp only [List.getD_cons_succ]
    rw [List.getD_eq_getElem?_getD, List.getElem?_append_right (by simp), List.getElem?_append_right (by simp [foTold]), List.getD_eq_getElem?_getD]
    simp [foTold]
theorem foIs_c {all : List (Int → Int)} {i : Nat} {c : Nat → Int} {used off jit now last : Int} {k : Nat} (h : k < 40) : (foIs all i c used off jit now last).getD (7 + k) 0 = c k := by
  unfold foIs
  rw [show 7 + k = k + 1 + 1 + 1 + 1 + 1 + 1 + 1 by omega]
  simp only [List.getD_cons_succ]
  rw [List.getD_eq_getElem?_getD, List.getElem?_append_left (by simpa using h), ← List.getD_eq_getElem?_getD, getD_map h]
/-- a round's environment -/
structure foOn (all : List (Int → Int)) (ρ0 ρ : Env) (i : Nat) (c : Nat → Int) (had : Bool) (used off jit now last : Int) : Prop where
  ylo : ∀ k, k < 46 → ρ.i k = ρ0.i k
  yi : ρ.i 46 = i
  ym : ρ.i 47 = ((min i 8 : Nat) : Int)
  yu : ρ.i 48 = used
  yo : ρ.i 49 = off
  yj : ρ.i 50 = jit
  yn : ρ.i 51 = now
  yl : ρ.i 52 = last
  yc : ∀ k, k < 40 → ρ.i (53 + k) = c k
  yt1 : ∀ t, t < 7 → ρ.i (93 + t) = (foTold (foWin all c i (now + sRow all 5 i)) (min (i + 1) 8) used off jit (now + sRow all 5 i)).getD t 0
  yt2 : ∀ t, t < 7 → ρ.i (100 + t) = (foTold (foWin all c i now) (min (i + 1) 8) used off jit now).getD t 0
  yb0 : ρ.b 0 = ρ0.b 0
  yb1 : ρ.b 1 = had
  ya : ρ.a = ρ0.a
  yx : ρ.x = ρ0.x
theorem foOn_of {all : List (Int → Int)} {ρ0 : Env} {i : Nat} {c : Nat → Int} {had : Bool} {used off jit now last : Int} : foOn all ρ0 (ρ0.on ((List.range 46).map ρ0.i ++ foIs all i c used off jit now last) [ρ0.b 0, had]) i c had used off jit now last :=
  ⟨fun k hk => on_lo hk, on_hi 0, on_hi 1, on_hi 2, on_hi 3, on_hi 4, on_hi 5, on_hi 6, fun k hk => by rw [show 53 + k = 46 + (7 + k) by omega, on_hi, foIs_c hk], fun t ht => by rw [show 93 + t = 46 + (47 + t) by omega, on_hi, (foIs_get ht).1], fun t ht => by rw [show 100 + t = 46 + (54 + t) by omega, on_hi, (foIs_get ht).2], rfl, rfl, rfl, rfl⟩
end Go.Proofs.Ythhipnhnpjhaaaa
/- Law 14: FilterOnce: its loop, round by round; the walk. -/
namespace Go.Proofs.Ythhipnhnpjhaaaa
open Go Go.RowKit Ev
set_option linter.unusedVariables false
set_option linter.unusedSimpArgs false
set_option maxRecDepth 100000
set_option maxHeartbeats 0

/-- a filter, the time, what was told last -/
structure FS where
  c : Nat → Int
  had : Bool
  used : Int
  off : Int
  jit : Int
  now : Int
  last : Int
def foUf (used off jit : Int) (k : Nat) : Int := if k = 0 then used else if k = 1 then off else if k = 2 then 0 else jit
noncomputable def foErr (s : FS) (w : Nat → Int) (m : Nat) (a : Int) : Bool :=
  s.had && (!(decide (s.used < tF w m 0 3)) || (decide (apN 1 (apN 1 s.jit s.jit 0) s.jit 0 < apN 11 (apN 2 (tHr w m 0 0) (apN 2 s.off 0 0) 0) 0 0) && decide (apN 2 a s.used 0 < 549755813888)))
noncomputable def foStep (all : List (Int → Int)) (i : Nat) (a : Int) (s : FS) : FS :=
  if foErr s (foWin all s.c i a) (min (i + 1) 8) a then { s with c := foWin all s.c i a, now := a }
  else ⟨foWin all s.c i a, true, tF (foWin all s.c i a) (min (i + 1) 8) 0 3, tHr (foWin all s.c i a) (min (i + 1) 8) 0 0, tJs (foWin all s.c i a) (min (i + 1) 8) (foUf s.used s.off s.jit) (-20) a 0, a, tF (foWin all s.c i a) (min (i + 1) 8) 0 3⟩
noncomputable def foAt (all : List (Int → Int)) (g : Nat) : Nat → FS
  | 0 => ⟨fun _ => 0, false, 0, 0, 0, 0, -1⟩
  | i + 1 => foStep all i (if i < g then (foAt all g i).now + sRow all 5 i else (foAt all g i).now) (foAt all g i)
abbrev foInv (i : Nat) (s : FS) : Prop := foSt0 i s.c s.had s.used s.off s.jit s.now s.last
theorem foStep_inv {all : List (Int → Int)} (hr : ∀ k, k < 5 → ∀ a, InI (sRow all k a)) {i : Nat} {s : FS} (h : foInv i s) {a : Int} (h1 : s.now ≤ a) (h2 : a ≤ ((i + 1 : Nat) : Int) * 65535) (hi : i ≤ 200) : foInv (i + 1) (foStep all i a s) := by
  have hn := h.xn
  have ha : InI a := ⟨by omega, by omega⟩
  have hA := foTold_at h h1 (all := all)
  unfold foStep
  split
  · refine ⟨fun k hk => foWin_in hr h ha hk, fun k h1 hk => foWin_z h h1 hk, fun k hk => foWin_at h h1 hk, ⟨by show (0 : Int) ≤ a; omega, h2⟩, h.xu, h.xl, fun hh => ?_⟩
    have := h.xh hh
    exact ⟨this.1, by show s.used ≤ a; omega⟩
  · refine ⟨fun k hk => foWin_in hr h ha hk, fun k h1 hk => foWin_z h h1 hk, fun k hk => foWin_at h h1 hk, ⟨by show (0 : Int) ≤ a; omega, h2⟩, ⟨tF_in (by omega) (by omega) (fun k hk => foWin_in hr h ha hk), tHr_in, tJs_in⟩, rfl, fun _ => hA⟩
theorem foAt_inv {all : List (Int → Int)} {g : Nat} (hr : ∀ k, k < 5 → ∀ a, InI (sRow all k a)) (hg : ∀ a, 0 ≤ sRow all 5 a ∧ sRow all 5 a ≤ 65535) : ∀ i, i ≤ 200 → foInv i (foAt all g i)
  | 0, _ => ⟨fun k _ => in0, fun k _ _ => rfl, fun k hk => by omega, ⟨Int.le_refl _, Int.le_refl _⟩, ⟨in0, in0, in0⟩, rfl, fun h => by cases h⟩
  | i + 1, hi => by
    have h := foAt_inv hr hg i (by omega) (g := g)
    have hn := h.xn
    have hgi := hg i
    refine foStep_inv hr h ?_ ?_ (by omega)
    · split <;> omega
    · split
      · push_cast; omega
      · push_cast; omega
noncomputable def foI (len g : Nat) (all : List (Int → Int)) (n : Nat) : Int :=
  if n = 0 then (len : Int) else if n = 1 then (g : Int) else if n = 2 then ((min len 8 : Nat) : Int) else if n = 3 then (foAt all g len).used else if n = 4 then (foAt all g len).off else if n = 5 then (foAt all g len).jit else (foAt all g len).c (n - 6)
noncomputable def foEv (B C : Ext) (all : List (Int → Int)) : Env := { i := foI B.len C.len all, b := fun n => if n = 0 then (foAt all C.len B.len).had else false, a := apR all, x := fun n => [some B, some C].getD n none }
theorem foG_next {ρ : Env} {a : IE} {r : Nat} {s : FS} {w : Nat → Int} {m : Nat} (hb : ρ.b 1 = s.had) (hu : ρ.i 48 = s.used) (ho : ρ.i 49 = s.off) (hj : ρ.i 50 = s.jit) (hl : ρ.i 52 = s.last) (hA : ρ.i (r + 4) = tF w m 0 3) (hO : ρ.i r = tHr w m 0 0) (ha : NumA ρ) (hok : foErr s w m (a.den ρ) = false → s.last < tF w m 0 3 ∧ ¬ a.den ρ < tF w m 0 3) :
    (foG a r).next ρ = if foErr s w m (a.den ρ) then (foGo a).next ρ else (foGo2 a r).next ρ := by
  have e : (foG a r).next ρ = cond (ρ.b 1) (cond (decide (ρ.i 48 < ρ.i (r + 4))) (cond (decide (ρ.a 1 (ρ.a 1 (ρ.i 50) (ρ.i 50) 0) (ρ.i 50) 0 < ρ.a 11 (ρ.a 2 (ρ.i r) (ρ.a 2 (ρ.i 49) 0 0) 0) 0 0)) (cond (decide (ρ.a 2 (a.den ρ) (ρ.i 48) 0 < 549755813888)) ((foGo a).next ρ) ((foOk a r).next ρ)) ((foOk a r).next ρ)) ((foGo a).next ρ)) ((foOk a r).next ρ) := rfl
  have k : (foOk a r).next ρ = cond (decide (ρ.i 52 < ρ.i (r + 4))) (cond (decide (a.den ρ < ρ.i (r + 4))) none ((foGo2 a r).next ρ)) none := rfl
  rw [e, k, hb, hu, ho, hj, hl, hA, hO, ha 1 (by decide), ha 1 (by decide), ha 11 (by decide), ha 2 (by decide), ha 2 (by decide), ha 2 (by decide)]
  unfold foErr at hok ⊢
  cases h1 : s.had with
  | false =>
    rw [h1] at hok
    obtain ⟨q1, q2⟩ := hok rfl
    rw [decide_eq_true q1, decide_eq_false q2]
    rfl
  | true =>
    rw [h1] at hok
    cases h2 : decide (s.used < tF w m 0 3) with
    | false => rfl
    | true =>
      rw [h2] at hok
      cases h3 : decide (apN 1 (apN 1 s.jit s.jit 0) s.jit 0 < apN 11 (apN 2 (tHr w m 0 0) (apN 2 s.off 0 0) 0) 0 0) with
      | false =>
        rw [h3] at hok
        obtain ⟨q1, q2⟩ := hok rfl
        rw [decide_eq_true q1, decide_eq_false q2]
        rfl
      | true =>
        rw [h3] at hok
        cases h4 : decide (apN 2 (a.den ρ) s.used 0 < 549755813888) with
        | false =>
          rw [h4] at hok
          obtain ⟨q1, q2⟩ := hok rfl
          rw [decide_eq_true q1, decide_eq_false q2]
          rfl
        | true => rfl
theorem foErr_ok {all : List (Int → Int)} {i : Nat} {s : FS} (h : foInv i s) {a : Int} (h1 : s.now ≤ a) (he : foErr s (foWin all s.c i a) (min (i + 1) 8) a = false) : s.last < tF (foWin all s.c i a) (min (i + 1) 8) 0 3 ∧ ¬ a < tF (foWin all s.c i a) (min (i + 1) 8) 0 3 := by
  have hA := foTold_at h h1 (all := all)
  refine ⟨?_, by omega⟩
  rw [h.xl]
  unfold foErr at he
  cases hh : s.had with
  | false => simp; omega
  | true =>
    rw [hh] at he
    rw [if_pos rfl]
    cases h2 : decide (s.used < tF (foWin all s.c i a) (min (i + 1) 8) 0 3) with
    | true => exact of_decide_eq_true h2
    | false => rw [h2] at he; cases he
section
variable {all : List (Int → Int)} {ρ0 ρ : Env} {i : Nat} {s : FS}
theorem foM_den (h : foOn all ρ0 ρ i s.c s.had s.used s.off s.jit s.now s.last) : foM.den ρ = ((min (i + 1) 8 : Nat) : Int) := by
  show mnI (ρ.i 47 + 1) 8 = _
  rw [h.ym]
  unfold mnI
  split <;> omega
theorem foN_den (h : foOn all ρ0 ρ i s.c s.had s.used s.off s.jit s.now s.last) (ha : ρ.a = apR all) {a : IE} {k : Nat} (hk : k < 40) : (foN a k).den ρ = foWin all s.c i (a.den ρ) k := by
  unfold foN foWin
  split
  · unfold foS
    split
    · rfl
    · show ρ.a (20 + k) (ρ.i 46) 0 0 = _
      rw [ha, apR_row, h.yi]
  · show ρ.i (53 + (k - 5)) = _
    rw [h.yc _ (by omega)]
theorem foU_den (h : foOn all ρ0 ρ i s.c s.had s.used s.off s.jit s.now s.last) : (fun k => (foU (.var 48) (.var 49) (.var 50) k).den ρ) = foUf s.used s.off s.jit := by
  funext k
  unfold foU foUf
  split
  · exact h.yu
  · split
    · exact h.yo
    · split
      · rfl
      · exact h.yj
theorem foPut_ok (h : foOn all ρ0 ρ i s.c s.had s.used s.off s.jit s.now s.last) (hs : foInv i s) {a : IE} : Known Try.prog ρ (foPut a) := by
  refine put_known (m := min i 8) (by omega) h.ym (fun k h1 h2 => ?_) (fun k hk => ?_) ?_
  · show ρ.i (53 + k) = 0
    rw [h.yc k h2]
    exact hs.xz k h1 h2
  · unfold foN
    split <;> rfl
  · rw [foM_den h]; congr 1; omega
theorem foTell_ok (hr : ∀ k, k < 5 → ∀ a, InI (sRow all k a)) (h : foOn all ρ0 ρ i s.c s.had s.used s.off s.jit s.now s.last) (hs : foInv i s) (ha : ρ.a = apR all) {a : IE} (hi : InI (a.den ρ)) {r : Nat} (ht : ∀ t, t < 7 → ρ.i (r + t) = (foTold (foWin all s.c i (a.den ρ)) (min (i + 1) 8) s.used s.off s.jit (a.den ρ)).getD t 0) : Known Try.prog ρ (foTell a r) ∧ Known Try.prog ρ (foTell2 a r) := by
  have hw : ∀ k, k < 40 → InI (foWin all s.c i (a.den ρ) k) := fun k hk => foWin_in hr hs hi hk
  have hu := foU_den h
  have h20 : InI (-20) := ⟨by decide, by decide⟩
  have h0 : InI 0 := ⟨by decide, by decide⟩
  have t0 := ht 0 (by omega)
  have t1 := ht 1 (by omega)
  have t2 := ht 2 (by omega)
  have t3 := ht 3 (by omega)
  have t4 := ht 4 (by omega)
  have t5 := ht 5 (by omega)
  have t6 := ht 6 (by omega)
  rw [Nat.add_zero] at t0
  have hu2 : (fun k => (foU (.var (r + 4)) (.var r) (.var (r + 3)) k).den ρ) = fun k => if k = 0 then tF (foWin all s.c i (a.den ρ)) (min (i + 1) 8) 0 3 else if k = 1 then tHr (foWin all s.c i (a.den ρ)) (min (i + 1) 8) 0 0 else if k = 2 then 0 else tJs (foWin all s.c i (a.den ρ)) (min (i + 1) 8) (foUf s.used s.off s.jit) (-20) (a.den ρ) 0 := by
    funext k
    unfold foU
    split
    · exact t4
    · split
      · exact t0
      · split
        · rfl
        · exact t3
  constructor
  · refine tell_known2 (c := foWin all s.c i (a.den ρ)) (m := min (i + 1) 8) (by omega) (by omega) (foM_den h) (fun k hk => foN_den h ha hk) hw (fun k hk => ?_) h20 hi h0 t0 t1 ?_ ?_ t4
    · rw [show (foU (.var 48) (.var 49) (.var 50) k).den ρ = foUf s.used s.off s.jit k from congrFun hu k]
      unfold foUf
      have := hs.xu
      split
      · exact this.1
      · split
        · exact this.2.1
        · split
          · exact h0
          · exact this.2.2
    · rw [hu]; exact t2
    · rw [hu]; exact t3
  · refine tell_known2 (c := foWin all s.c i (a.den ρ)) (m := min (i + 1) 8) (by omega) (by omega) (foM_den h) (fun k hk => foN_den h ha hk) hw (fun k hk => ?_) h20 hi h0 t0 t1 ?_ ?_ t4
    · have := congrFun hu2 k
      rw [this]
      split
      · exact tF_in (by omega) (by omega) hw
      · split
        · exact tHr_in
        · split
          · exact h0
          · exact tJs_in
    · rw [hu2]; exact t5
    · rw [hu2]; exact t6
end
end Go.Proofs.Ythhipnhnpjhaaaa
/- Law 14: FilterOnce: the walk. -/
namespace Go.Proofs.Ythhipnhnpjhaaaa
open Go Go.RowKit Ev
set_option linter.unusedVariables false
set_option linter.unusedSimpArgs false
set_option maxRecDepth 100000
set_option maxHeartbeats 0

noncomputable abbrev foIn (all : List (Int → Int)) (i : Nat) (s : FS) : List Int := foIs all i s.c s.used s.off s.jit s.now s.last
theorem foTold_in {w : Nat → Int} {m : Nat} (hm : m ≤ 8) (hw : ∀ k, k < 40 → InI (w k)) {used off jit a : Int} (hA : 0 ≤ tF w m 0 3 ∧ tF w m 0 3 ≤ 13172535) {f : Nat → Int} {n : Nat} (hf : ∀ t, t < 7 → f (n + t) = (foTold w m used off jit a).getD t 0) : AllIn f foTR n := by
  have h0 := hf 0 (by omega)
  rw [Nat.add_zero] at h0
  refine ⟨?_, ?_, ?_, ?_, ?_, ?_, ?_, trivial⟩
  · rw [h0]; exact tHr_in
  · rw [hf 1 (by omega)]; exact tF_in hm (by omega) hw
  · rw [hf 2 (by omega)]; exact tDs_in hm
  · rw [hf 3 (by omega)]; exact tJs_in
  · rw [hf 4 (by omega)]; exact hA
  · rw [hf 5 (by omega)]; exact tDs_in hm
  · rw [hf 6 (by omega)]; exact tJs_in
section
variable {W : World} {v v1 : Value} {B C : Ext} {rows cols : List (Int → Int)}
theorem fo_r (hB : XAny sKs W v B rows) (hC : XAny [.int .u16] W v1 C cols) : ∀ k, k < 5 → ∀ a, InI (sRow (rows ++ cols) k a) := by
  intro k hk a
  have e := getD_left (a := rows) (b := cols) (d := fun _ => 0) (c := k) (by rw [hB.len]; exact hk)
  rw [Nat.zero_add] at e
  unfold sRow
  rw [e]
  exact sRow_in hB hk a
theorem fo_g (hB : XAny sKs W v B rows) (hC : XAny [.int .u16] W v1 C cols) : ∀ a, 0 ≤ sRow (rows ++ cols) 5 a ∧ sRow (rows ++ cols) 5 a ≤ 65535 := by
  intro a
  have e := getD_right (a := rows) (b := cols) (d := fun _ => 0) (o := 5) (c := 0) hB.len
  rw [Nat.add_zero] at e
  unfold sRow
  rw [e]
  exact hC.rg 0 (0, 65535) rfl a
theorem fo_in (hB : XAny sKs W v B rows) (hC : XAny [.int .u16] W v1 C cols) (hl : B.len ≤ 200) (hg : C.len ≤ 200) : AllIn (foEv B C (rows ++ cols)).i foRl 0 := by
  have h := foAt_inv (g := C.len) (fo_r hB hC) (fo_g hB hC) B.len hl
  have hu := h.xu
  refine ⟨?_, ?_, ?_, AllIn.rep fun k hk => ?_⟩
  · show (0 : Int) ≤ (B.len : Nat) ∧ ((B.len : Nat) : Int) ≤ 200
    omega
  · show (0 : Int) ≤ (C.len : Nat) ∧ ((C.len : Nat) : Int) ≤ 200
    omega
  · show (0 : Int) ≤ ((min B.len 8 : Nat) : Int) ∧ ((min B.len 8 : Nat) : Int) ≤ 8
    omega
  · show InI (foI B.len C.len (rows ++ cols) (3 + k))
    unfold foI
    rw [if_neg (by omega), if_neg (by omega), if_neg (by omega)]
    split
    · exact hu.1
    · split
      · exact hu.2.1
      · split
        · exact hu.2.2
        · exact h.xc _ (by omega)
theorem fo_loop (hB : XAny sKs W v B rows) (hC : XAny [.int .u16] W v1 C cols) (hl : B.len ≤ 200) (hg : C.len ≤ 200) {c : Code} (hc : codeAt Try.prog foF foP = .loop c) (E : List (Nat × Nat)) : LoopGoes Try.prog (foEv B C (rows ++ cols)) E foL c := by
  have hin := fo_in hB hC hl hg
  have hr := fo_r hB hC
  have hgp := fo_g hB hC
  refine rt_lpg mixed fo_B hc (ρ := foEv B C (rows ++ cols)) (fun n is bs => ∃ i : Nat, n + i = B.len ∧ is = (List.range 46).map (foEv B C (rows ++ cols)).i ++ foIn (rows ++ cols) i (foAt (rows ++ cols) C.len i) ∧ bs = [(foEv B C (rows ++ cols)).b 0, (foAt (rows ++ cols) C.len i).had]) ?_ ?_ ?_ ?_
  · rintro n is bs ⟨i, h1, rfl, rfl⟩
    have hi := foAt_inv (g := C.len) hr hgp i (by omega)
    generalize foAt (rows ++ cols) C.len i = s at hi
    have hon := foOn_of (all := rows ++ cols) (ρ0 := foEv B C (rows ++ cols)) (i := i) (c := s.c) (had := s.had) (used := s.used) (off := s.off) (jit := s.jit) (now := s.now) (last := s.last)
    generalize (foEv B C (rows ++ cols)).on ((List.range 46).map (foEv B C (rows ++ cols)).i ++ foIn (rows ++ cols) i s) [(foEv B C (rows ++ cols)).b 0, s.had] = ρ' at hon ⊢
    have ha : ρ'.a = apR (rows ++ cols) := hon.ya
    have hn := hi.xn
    have hgi := hgp i
    refine knows_env rfl ?_ (foArIn hB hC ha) (foXok hB hC ha hon.yx (by rw [hon.ylo 0 (by omega)]; rfl) (by rw [hon.ylo 1 (by omega)]; rfl))
    show AllIn ρ'.i foR 0
    unfold foR
    refine AllIn.app (AllIn.congr (fun k hk => by rw [Nat.zero_add]; exact hon.ylo k (by simp [foRl] at hk; omega)) hin) ?_
    refine ⟨?_, ?_, ?_, ?_, ?_, ?_, ?_, AllIn.app (AllIn.rep fun k hk => ?_) (AllIn.app ?_ ?_)⟩
    · show (0 : Int) ≤ ρ'.i 46 ∧ ρ'.i 46 ≤ 200
      rw [hon.yi]; omega
    · show (0 : Int) ≤ ρ'.i 47 ∧ ρ'.i 47 ≤ 8
      rw [hon.ym]; omega
    · show InI (ρ'.i 48)
      rw [hon.yu]; exact hi.xu.1
    · show InI (ρ'.i 49)
      rw [hon.yo]; exact hi.xu.2.1
    · show InI (ρ'.i 50)
      rw [hon.yj]; exact hi.xu.2.2
    · show (0 : Int) ≤ ρ'.i 51 ∧ ρ'.i 51 ≤ 13107000
      rw [hon.yn]; omega
    · show (-1 : Int) ≤ ρ'.i 52 ∧ ρ'.i 52 ≤ 13107000
      rw [hon.yl, hi.xl]
      split
      · rename_i hh
        have := hi.xh hh
        omega
      · omega
    · show InI (ρ'.i (53 + k))
      rw [hon.yc k hk]; exact hi.xc k hk
    · show AllIn ρ'.i foTR 93
      have hA := foTold_at hi (show s.now ≤ s.now + sRow (rows ++ cols) 5 i by omega) (all := rows ++ cols)
      exact foTold_in (by omega) (fun k hk => foWin_in hr hi ⟨by omega, by omega⟩ hk) ⟨hA.1, Int.le_trans hA.2 (by omega)⟩ hon.yt1
    · show AllIn ρ'.i foTR 100
      have hA := foTold_at hi (Int.le_refl _) (all := rows ++ cols)
      exact foTold_in (by omega) (fun k hk => foWin_in hr hi ⟨by omega, by omega⟩ hk) ⟨hA.1, Int.le_trans hA.2 (by omega)⟩ hon.yt2
  · rintro n is bs ⟨i, h1, rfl, rfl⟩ E
    have hi := foAt_inv (g := C.len) hr hgp i (by omega)
    generalize foAt (rows ++ cols) C.len i = s at hi
    have hon := foOn_of (all := rows ++ cols) (ρ0 := foEv B C (rows ++ cols)) (i := i) (c := s.c) (had := s.had) (used := s.used) (off := s.off) (jit := s.jit) (now := s.now) (last := s.last)
    have hrg : ∀ (j : Nat) v, foR[j]? = some v → True := fun _ _ _ => trivial
    generalize hρ : (foEv B C (rows ++ cols)).on ((List.range 46).map (foEv B C (rows ++ cols)).i ++ foIn (rows ++ cols) i s) [(foEv B C (rows ++ cols)).b 0, s.had] = ρ' at hon ⊢
    have ha : ρ'.a = apR (rows ++ cols) := hon.ya
    have hn := hi.xn
    have hgi := hgp i
    have f1 := foTell_ok (a := foNow) (r := 93) hr hon hi ha (by show InI (ρ'.i 51 + ρ'.a 25 (ρ'.i 46) 0 0); rw [ha, show apR (rows ++ cols) 25 (ρ'.i 46) 0 0 = _ from apR_row (c := 5), hon.yn, hon.yi]; exact ⟨by omega, by omega⟩) (by
      show ∀ t, t < 7 → ρ'.i (93 + t) = (foTold (foWin _ s.c i (ρ'.i 51 + ρ'.a 25 (ρ'.i 46) 0 0)) _ s.used s.off s.jit (ρ'.i 51 + ρ'.a 25 (ρ'.i 46) 0 0)).getD t 0
      rw [ha, show apR (rows ++ cols) 25 (ρ'.i 46) 0 0 = _ from apR_row (c := 5), hon.yn, hon.yi]; exact hon.yt1)
    have f2 := foTell_ok (a := .var 51) (r := 100) hr hon hi ha (by show InI (ρ'.i 51); rw [hon.yn]; exact ⟨by omega, by omega⟩) (by
      show ∀ t, t < 7 → ρ'.i (100 + t) = (foTold (foWin _ s.c i (ρ'.i 51)) _ s.used s.off s.jit (ρ'.i 51)).getD t 0
      rw [hon.yn]; exact hon.yt2)
    refine ⟨fun q hq => ?_, fun pc hpc f vs v h _ φ w _ => conCt_ok (fun j v hj => ?_) (foArIn hB hC ha) (consN_ok (numA_R ha)) hpc h φ w, fun f p u L h => (by cases h)⟩
    · have hq' : q ∈ foCr := hq
      simp only [foCr, List.mem_cons, List.not_mem_nil, or_false] at hq'
      rcases hq' with rfl | rfl | rfl | rfl | rfl | rfl | rfl
      · exact foPut_ok hon hi
      · exact foPut_ok hon hi
      · exact f1.1
      · exact f1.2
      · exact f2.1
      · exact f2.2
      · exact fun φ w _ => standard14 w
    · have hAll : AllIn ρ'.i foR 0 := by
        unfold foR
        refine AllIn.app (AllIn.congr (fun k hk => by rw [Nat.zero_add]; exact hon.ylo k (by simp [foRl] at hk; omega)) hin) ?_
        refine ⟨?_, ?_, ?_, ?_, ?_, ?_, ?_, AllIn.app (AllIn.rep fun k hk => ?_) (AllIn.app ?_ ?_)⟩
        · show (0 : Int) ≤ ρ'.i 46 ∧ ρ'.i 46 ≤ 200
          rw [hon.yi]; omega
        · show (0 : Int) ≤ ρ'.i 47 ∧ ρ'.i 47 ≤ 8
          rw [hon.ym]; omega
        · show InI (ρ'.i 48)
          rw [hon.yu]; exact hi.xu.1
        · show InI (ρ'.i 49)
          rw [hon.yo]; exact hi.xu.2.1
        · show InI (ρ'.i 50)
          rw [hon.yj]; exact hi.xu.2.2
        · show (0 : Int) ≤ ρ'.i 51 ∧ ρ'.i 51 ≤ 13107000
          rw [hon.yn]; omega
        · show (-1 : Int) ≤ ρ'.i 52 ∧ ρ'.i 52 ≤ 13107000
          rw [hon.yl, hi.xl]
          split
          · rename_i hh
            have := hi.xh hh
            omega
          · omega
        · show InI (ρ'.i (53 + k))
          rw [hon.yc k hk]; exact hi.xc k hk
        · show AllIn ρ'.i foTR 93
          have hA := foTold_at hi (show s.now ≤ s.now + sRow (rows ++ cols) 5 i by omega) (all := rows ++ cols)
          exact foTold_in (by omega) (fun k hk => foWin_in hr hi ⟨by omega, by omega⟩ hk) ⟨hA.1, Int.le_trans hA.2 (by omega)⟩ hon.yt1
        · show AllIn ρ'.i foTR 100
          have hA := foTold_at hi (Int.le_refl _) (all := rows ++ cols)
          exact foTold_in (by omega) (fun k hk => foWin_in hr hi ⟨by omega, by omega⟩ hk) ⟨hA.1, Int.le_trans hA.2 (by omega)⟩ hon.yt2
      exact hAll.get0 j v hj
  · refine ⟨B.len, _, _, ⟨0, rfl, rfl, rfl⟩, ?_, List.prefix_rfl⟩
    unfold foE
    rw [dens_app, dens_vrs]
    refine (List.prefix_append_right_inj _).2 ?_
    show (0 : Int) :: 0 :: 0 :: 0 :: 0 :: 0 :: (-1) :: dens _ _ <+: (0 : Int) :: 0 :: 0 :: 0 :: 0 :: 0 :: (-1) :: (_ ++ _)
    rw [dens_map]
    simp only [List.cons_prefix_cons, true_and]
    exact List.prefix_append _ _
  · rintro n is bs ⟨i, h1, rfl, rfl⟩
    have hi := foAt_inv (g := C.len) hr hgp i (by omega)
    have hon := foOn_of (all := rows ++ cols) (ρ0 := foEv B C (rows ++ cols)) (i := i) (c := (foAt (rows ++ cols) C.len i).c) (had := (foAt (rows ++ cols) C.len i).had) (used := (foAt (rows ++ cols) C.len i).used) (off := (foAt (rows ++ cols) C.len i).off) (jit := (foAt (rows ++ cols) C.len i).jit) (now := (foAt (rows ++ cols) C.len i).now) (last := (foAt (rows ++ cols) C.len i).last)
    generalize (foEv B C (rows ++ cols)).on ((List.range 46).map (foEv B C (rows ++ cols)).i ++ foIn (rows ++ cols) i (foAt (rows ++ cols) C.len i)) [(foEv B C (rows ++ cols)).b 0, (foAt (rows ++ cols) C.len i).had] = ρ' at hon ⊢
    have ha : ρ'.a = apR (rows ++ cols) := hon.ya
    have hn0 : ρ'.i 0 = (B.len : Nat) := by rw [hon.ylo 0 (by omega)]; rfl
    have hn1 : ρ'.i 1 = (C.len : Nat) := by rw [hon.ylo 1 (by omega)]; rfl
    have hgi := hgp i
    by_cases hlt : i < B.len
    · left
      have key : ∀ (a : IE) (r : Nat), (∀ t, t < 7 → ρ'.i (r + t) = (foTold (foWin (rows ++ cols) (foAt (rows ++ cols) C.len i).c i (a.den ρ')) (min (i + 1) 8) (foAt (rows ++ cols) C.len i).used (foAt (rows ++ cols) C.len i).off (foAt (rows ++ cols) C.len i).jit (a.den ρ')).getD t 0) → (foAt (rows ++ cols) C.len i).now ≤ a.den ρ' → foAt (rows ++ cols) C.len (i + 1) = foStep (rows ++ cols) i (a.den ρ') (foAt (rows ++ cols) C.len i) → foT.next ρ' = (foG a r).next ρ' →
          ∃ is' bs' m' js cs, foT.next ρ' = some (is', bs') ∧ m' < n ∧ (∃ i : Nat, m' + i = B.len ∧ js = (List.range 46).map (foEv B C (rows ++ cols)).i ++ foIn (rows ++ cols) i (foAt (rows ++ cols) C.len i) ∧ cs = [(foEv B C (rows ++ cols)).b 0, (foAt (rows ++ cols) C.len i).had]) ∧ is' <+: js ∧ bs' <+: cs := by
        intro a r ht h2 hs hnx
        have t0 : ρ'.i r = tHr (foWin (rows ++ cols) (foAt (rows ++ cols) C.len i).c i (a.den ρ')) (min (i + 1) 8) 0 0 := ht 0 (by omega)
        have t3 : ρ'.i (r + 3) = tJs (foWin (rows ++ cols) (foAt (rows ++ cols) C.len i).c i (a.den ρ')) (min (i + 1) 8) (foUf (foAt (rows ++ cols) C.len i).used (foAt (rows ++ cols) C.len i).off (foAt (rows ++ cols) C.len i).jit) (-20) (a.den ρ') 0 := ht 3 (by omega)
        have t4 : ρ'.i (r + 4) = tF (foWin (rows ++ cols) (foAt (rows ++ cols) C.len i).c i (a.den ρ')) (min (i + 1) 8) 0 3 := ht 4 (by omega)
        have hg := foG_next (a := a) (r := r) hon.yb1 hon.yu hon.yo hon.yj hon.yl t4 t0 (numA_R ha) (fun he => foErr_ok hi h2 he)
        rw [hnx, hg]
        have hd : dens ρ' ((List.range 40).map (foN a)) = (List.range 40).map (foWin (rows ++ cols) (foAt (rows ++ cols) C.len i).c i (a.den ρ')) := by
          rw [dens_map]
          exact map_range_congr fun k hk => foN_den hon ha hk
        have hm := foM_den hon
        cases he : foErr (foAt (rows ++ cols) C.len i) (foWin (rows ++ cols) (foAt (rows ++ cols) C.len i).c i (a.den ρ')) (min (i + 1) 8) (a.den ρ') with
        | true =>
          rw [if_pos rfl]
          refine ⟨dens ρ' _, bdens ρ' _, n - 1, _, _, rfl, by omega, ⟨i + 1, by omega, rfl, rfl⟩, ?_, ?_⟩
          · rw [dens_app, dens_vrs, map_range_congr (fun k hk => hon.ylo k hk), hs]
            unfold foStep
            rw [if_pos he]
            refine (List.prefix_append_right_inj _).2 ?_
            show (ρ'.i 46 + 1) :: foM.den ρ' :: ρ'.i 48 :: ρ'.i 49 :: ρ'.i 50 :: a.den ρ' :: ρ'.i 52 :: dens ρ' ((List.range 40).map (foN a)) <+: ((i + 1 : Nat) : Int) :: ((min (i + 1) 8 : Nat) : Int) :: _ :: _ :: _ :: _ :: _ :: (_ ++ _)
            rw [hon.yi, hm, hon.yu, hon.yo, hon.yj, hon.yl, hd]
            refine List.cons_prefix_cons.2 ⟨by omega, ?_⟩
            simp only [List.cons_prefix_cons, true_and]
            exact List.prefix_append _ _
          · refine pre_of_eq ?_
            show [ρ'.b 0, ρ'.b 1] = _
            rw [hon.yb0, hon.yb1, hs]
            unfold foStep
            rw [if_pos he]
        | false =>
          rw [if_neg (by simp)]
          refine ⟨dens ρ' _, bdens ρ' _, n - 1, _, _, rfl, by omega, ⟨i + 1, by omega, rfl, rfl⟩, ?_, ?_⟩
          · rw [dens_app, dens_vrs, map_range_congr (fun k hk => hon.ylo k hk), hs]
            unfold foStep
            rw [if_neg (by rw [he]; simp)]
            refine (List.prefix_append_right_inj _).2 ?_
            show (ρ'.i 46 + 1) :: foM.den ρ' :: ρ'.i (r + 4) :: ρ'.i r :: ρ'.i (r + 3) :: a.den ρ' :: ρ'.i (r + 4) :: dens ρ' ((List.range 40).map (foN a)) <+: ((i + 1 : Nat) : Int) :: ((min (i + 1) 8 : Nat) : Int) :: _ :: _ :: _ :: _ :: _ :: (_ ++ _)
            rw [hon.yi, hm, t4, t0, t3, hd]
            refine List.cons_prefix_cons.2 ⟨by omega, ?_⟩
            refine List.cons_prefix_cons.2 ⟨rfl, List.cons_prefix_cons.2 ⟨rfl, List.cons_prefix_cons.2 ⟨rfl, List.cons_prefix_cons.2 ⟨rfl, List.cons_prefix_cons.2 ⟨rfl, List.cons_prefix_cons.2 ⟨rfl, ?_⟩⟩⟩⟩⟩⟩
            exact List.prefix_append _ _
          · refine pre_of_eq ?_
            show [ρ'.b 0, true] = _
            rw [hon.yb0, hs]
            unfold foStep
            rw [if_neg (by rw [he]; simp)]
      have e : foT.next ρ' = cond (decide (ρ'.i 46 < ρ'.i 0)) (cond (decide (ρ'.i 46 < ρ'.i 1)) ((foG foNow 93).next ρ') ((foG (.var 51) 100).next ρ')) none := rfl
      have hnow : foNow.den ρ' = (foAt (rows ++ cols) C.len i).now + sRow (rows ++ cols) 5 i := by
        show ρ'.i 51 + ρ'.a 25 (ρ'.i 46) 0 0 = _
        rw [ha, show apR (rows ++ cols) 25 (ρ'.i 46) 0 0 = _ from apR_row (c := 5), hon.yn, hon.yi]
      have hnow2 : (IE.var 51).den ρ' = (foAt (rows ++ cols) C.len i).now := hon.yn
      by_cases hgl : i < C.len
      · refine key foNow 93 (by rw [hnow]; exact hon.yt1) (by rw [hnow]; omega) ?_ ?_
        · rw [hnow]
          show foStep _ i (if i < C.len then _ else _) _ = _
          rw [if_pos hgl]
        · rw [e, hn0, hn1, hon.yi, decide_eq_true (by omega), decide_eq_true (by omega)]; rfl
      · refine key (.var 51) 100 (by rw [hnow2]; exact hon.yt2) (by rw [hnow2]; omega) ?_ ?_
        · rw [hnow2]
          show foStep _ i (if i < C.len then _ else _) _ = _
          rw [if_neg hgl]
        · rw [e, hn0, hn1, hon.yi, decide_eq_true (by omega), decide_eq_false (by omega)]; rfl
    · right
      obtain rfl : i = B.len := by omega
      have e : foT.out ρ' = cond (decide (ρ'.i 46 < ρ'.i 0)) (cond (decide (ρ'.i 46 < ρ'.i 1)) ((foG foNow 93).out ρ') ((foG (.var 51) 100).out ρ')) (foSt.out ρ') := rfl
      rw [e, hn0, hon.yi, decide_eq_false (by omega), cond_false]
      refine ⟨_, _, rfl, ?_⟩
      rw [dens_map]
      refine has_fun (fun k hk => ?_) (fun j x h => ?_)
      · show foI B.len C.len (rows ++ cols) k = ρ'.i _
        split
        · rw [hon.ylo k (by omega)]; rfl
        · split
          · obtain h | h | h | h : k = 2 ∨ k = 3 ∨ k = 4 ∨ k = 5 := by omega
            all_goals subst h
            · rw [hon.ym]; rfl
            · rw [hon.yu]; rfl
            · rw [hon.yo]; rfl
            · rw [hon.yj]; rfl
          · rw [hon.yc _ (by omega)]
            unfold foI
            rw [if_neg (by omega), if_neg (by omega), if_neg (by omega), if_neg (by omega), if_neg (by omega), if_neg (by omega)]
      · cases j with
        | zero =>
          have : x = ρ'.b 1 := by
            have h' : some (ρ'.b 1) = some x := h
            exact (Option.some.inj h').symm
          rw [this, hon.yb1]
          rfl
        | succ j => simp [bdens] at h
end
def foLp (f : FuncId) (p : List Nat) (_ : Nat) : Option LoopSum := if Nat.beq f foF && decide (p = foP) then some foL else none
def foW : Tree := .leaf (.bool (.cmp .eql (.var 2) (.mn (.var 0) (.lit 8))))
theorem filterOnce_walk {v v1 : Value} {W : World} (hv : IsXs sKs W v) (hv1 : IsXs [.int .u16] W v1) :
    Calls Try.prog foF #[v, v1] W fun e w' => e = .returned (.bool true) ∧ Below W.heap.size W w' := by
  obtain ⟨B, rows, hB⟩ := hv.any
  obtain ⟨C, cols, hC⟩ := hv1.any
  have hval := hB.val
  have hval1 := hC.val
  have hle := hB.le
  have hle1 := hC.le
  by_cases hl : B.len ≤ 200
  · by_cases hg : C.len ≤ 200
    · have h := law_cs (ρ := foEv B C (rows ++ cols)) (rg := foRl) (ar := foAr) (args := [.xs 0, .xs 1]) (fo_in hB hC hl hg) (foArIn hB hC rfl) (cs := []) (fun c hc => by cases hc) (cr := k14) k14_ok (lp := foLp)
        (fun f p u L h c hc _ => by
          unfold foLp at h
          split at h
          · rename_i hcc
            simp only [Bool.and_eq_true, Nat.beq_eq, decide_eq_true_eq] at hcc
            obtain ⟨rfl, rfl⟩ := hcc
            cases h
            exact fo_loop hB hC hl hg hc []
          · cases h) (xs := foXs) (foXok hB hC rfl rfl rfl rfl) (nm := []) (fun p hp => by cases hp) (nz := false) foW (n := 3000) (f := foF) (Tree.ok_of_check (by kernel_rfl)) ?_ W (ext_two hB hC rfl)
      · rw [hval, hval1]; exact h
      · show (((min B.len 8 : Nat) : Int) == mnI ((B.len : Nat) : Int) 8) = true
        have : mnI ((B.len : Nat) : Int) 8 = ((min B.len 8 : Nat) : Int) := by unfold mnI; split <;> omega
        rw [this, beq_self_eq_true]
    · have h := law_cs (ρ := foEv B C (rows ++ cols)) (rg := [(0, 200), (201, 9223372036854775807)]) (ar := foAr) (args := [.xs 0, .xs 1]) ⟨by show (0 : Int) ≤ (B.len : Nat) ∧ ((B.len : Nat) : Int) ≤ 200; omega, by show (201 : Int) ≤ (C.len : Nat) ∧ ((C.len : Nat) : Int) ≤ 9223372036854775807; unfold maxLen at hle1; omega, trivial⟩ (foArIn hB hC rfl) (cs := []) (fun c hc => by cases hc) (cr := k14) k14_ok LpOk.none (xs := foXs) (foXok hB hC rfl rfl rfl rfl) (nm := []) (fun p hp => by cases hp) (nz := false) (.leaf (.bool (.lit true))) (n := 3000) (f := foF) (Tree.ok_of_check (by kernel_rfl)) rfl W (ext_two hB hC rfl)
      rw [hval, hval1]; exact h
  · have h := law_cs (ρ := foEv B C (rows ++ cols)) (rg := [(201, 9223372036854775807), (0, 9223372036854775807)]) (ar := foAr) (args := [.xs 0, .xs 1]) ⟨by show (201 : Int) ≤ (B.len : Nat) ∧ ((B.len : Nat) : Int) ≤ 9223372036854775807; unfold maxLen at hle; omega, by show (0 : Int) ≤ (C.len : Nat) ∧ ((C.len : Nat) : Int) ≤ 9223372036854775807; unfold maxLen at hle1; omega, trivial⟩ (foArIn hB hC rfl) (cs := []) (fun c hc => by cases hc) (cr := k14) k14_ok LpOk.none (xs := foXs) (foXok hB hC rfl rfl rfl rfl) (nm := []) (fun p hp => by cases hp) (nz := false) (.leaf (.bool (.lit true))) (n := 3000) (f := foF) (Tree.ok_of_check (by kernel_rfl)) rfl W (ext_two hB hC rfl)
    rw [hval, hval1]; exact h
end Go.Proofs.Ythhipnhnpjhaaaa
