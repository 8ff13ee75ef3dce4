/- Law 11: ReachCounts: its loops hold; the walk. -/
import Derived.Test.YtmgfnejiienghaaT11x
namespace Go.Proofs.Ytmgfnejiienghaa
open Go Go.RowKit Ev
set_option linter.unusedVariables false
set_option linter.unusedSimpArgs false
set_option maxRecDepth 100000

/-- the state behind i questions -/
def rcC (l : Nat → Bool) (tw : Bool) : Nat → RcS
  | 0 => ⟨0, 6, 6, 0⟩
  | i + 1 => ⟨if l i then rcO (rcG (rcC l tw i).g) else rcG (rcC l tw i).g, rcH (rcG (rcC l tw i).g) (rcC l tw i).h, if l i then (if tw then 7 else 6) else (rcC l tw i).p, rcX (min (rcH (rcG (rcC l tw i).g) (rcC l tw i).h) (rcC l tw i).p) (rcC l tw i).x 0⟩
theorem rcC_g (l : Nat → Bool) (tw : Bool) : ∀ i, (rcC l tw i).g = rcReg l i
  | 0 => rfl
  | i + 1 => by
    show (if l i then rcO (rcG (rcC l tw i).g) else rcG (rcC l tw i).g) = (if l i then rcO (rcG (rcReg l i)) else rcG (rcReg l i))
    rw [rcC_g l tw i]
theorem rcC_in (l : Nat → Bool) (tw : Bool) : ∀ k : Nat, k ≤ 1000 → (rcC l tw k).In k
  | 0, _ => by refine ⟨?_, ?_, ?_, ?_⟩ <;> simp [rcC]
  | k + 1, hk => by
    have i := rcC_in l tw k (by omega)
    have ih := (rcH_in (g := rcG (rcC l tw k).g) i.h).1
    have ix := i.x
    have hx := rcX_in (n := min (rcH (rcG (rcC l tw k).g) (rcC l tw k).h) (rcC l tw k).p) (now := (rcC l tw k).x) (d := 0) (by have := i.p; omega) ⟨i.x.1, by omega⟩ (by omega)
    refine ⟨?_, ih, ?_, ?_⟩
    · show 0 ≤ (if l k then _ else _) ∧ (if l k then _ else _) ≤ (255 : Int)
      split
      · exact rcO_in (rcG_in _)
      · exact rcG_in _
    · show 6 ≤ (if l k then _ else _) ∧ (if l k then _ else _) ≤ (10 : Int)
      split
      · cases tw <;> simp
      · exact i.p
    · show 0 ≤ rcX _ _ _ ∧ rcX _ _ _ ≤ _
      generalize rcX (min (rcH (rcG (rcC l tw k).g) (rcC l tw k).h) (rcC l tw k).p) (rcC l tw k).x 0 = y at *
      omega
theorem rcO_O (g : Int) : rcO (rcO g) = rcO g := by
  unfold rcO
  by_cases h : g % 2 = 0
  · rw [if_pos h, if_neg (by omega)]
  · rw [if_neg h, if_neg h]
theorem pop_tab {g : Int} (h : 0 ≤ g ∧ g ≤ 255) : tabI popM g = popI g := by
  obtain ⟨n, rfl⟩ : ∃ n : Nat, g = n := ⟨g.toNat, by omega⟩
  have key : ∀ n : Nat, n < 256 → tabI popM n = popI n := by decide
  exact key n (by omega)
/-- how many of the last eight were answered, behind the i-th question -/
def rcM (l : Nat → Bool) (i : Nat) : Int := rcN l (i - 7) (i + 1 - (i - 7))
theorem rcM_in (l : Nat → Bool) (i : Nat) : 0 ≤ rcM l i ∧ rcM l i ≤ 8 := by
  have := rcN_in l (i - 7) (i + 1 - (i - 7))
  unfold rcM
  omega
theorem rcM_pop (l : Nat → Bool) (tw : Bool) (i : Nat) : popI (rcC l tw (i + 1)).g = rcM l i := by
  rw [rcC_g, ← rcN_pop]; rfl
abbrev roLaw (l : Nat → Bool) (tw : Bool) (n : Int) : List Int := [n, (rcC l tw n.toNat).g, (rcC l tw n.toNat).h, (rcC l tw n.toNat).p, (rcC l tw n.toNat).x]
abbrev roHd (l : Nat → Bool) (tw : Bool) (n : Int) (i : Nat) : List Int := roLaw l tw n ++ [(rcC l tw i).g, (rcC l tw i).h, (rcC l tw i).p, (rcC l tw i).x, (i : Int)]
abbrev roSt (l : Nat → Bool) (tw : Bool) (n : Int) (i : Nat) : List Int := roHd l tw n i ++ [rcG (rcC l tw i).g, rcH (rcG (rcC l tw i).g) (rcC l tw i).h, (rcC l tw i).p, rcX (min (rcH (rcG (rcC l tw i).g) (rcC l tw i).h) (rcC l tw i).p) (rcC l tw i).x 0, rcM l i]
abbrev rnSt (l : Nat → Bool) (tw : Bool) (n : Int) (i k : Nat) : List Int := roSt l tw n i ++ [(k : Int), rcN l (i - 7) (k - (i - 7))]
theorem x_inC {x : Int} {k : Nat} (hk : k ≤ 1000) (h : 0 ≤ x ∧ x ≤ k * 8796093022208) : InI x := ⟨by omega, by omega⟩
theorem roSt_rg (l : Nat → Bool) (tw : Bool) {n : Int} (hn : 1 ≤ n ∧ n ≤ 200) {i : Nat} (hi : (i : Int) ≤ n) :
    (1 ≤ n ∧ n ≤ 200) ∧ (0 ≤ (rcC l tw n.toNat).g ∧ (rcC l tw n.toNat).g ≤ 255) ∧ (6 ≤ (rcC l tw n.toNat).h ∧ (rcC l tw n.toNat).h ≤ 10) ∧ (6 ≤ (rcC l tw n.toNat).p ∧ (rcC l tw n.toNat).p ≤ 10) ∧ InI (rcC l tw n.toNat).x ∧ (0 ≤ (rcC l tw i).g ∧ (rcC l tw i).g ≤ 255) ∧ (6 ≤ (rcC l tw i).h ∧ (rcC l tw i).h ≤ 10) ∧ (6 ≤ (rcC l tw i).p ∧ (rcC l tw i).p ≤ 10) ∧ InI (rcC l tw i).x ∧ (0 ≤ (i : Int) ∧ (i : Int) ≤ 200) ∧ (0 ≤ rcG (rcC l tw i).g ∧ rcG (rcC l tw i).g ≤ 255) ∧ (6 ≤ rcH (rcG (rcC l tw i).g) (rcC l tw i).h ∧ rcH (rcG (rcC l tw i).g) (rcC l tw i).h ≤ 10) ∧ (6 ≤ (rcC l tw i).p ∧ (rcC l tw i).p ≤ 10) ∧ InI (rcX (min (rcH (rcG (rcC l tw i).g) (rcC l tw i).h) (rcC l tw i).p) (rcC l tw i).x 0) ∧ (0 ≤ rcM l i ∧ rcM l i ≤ 8) := by
  have f := rcC_in l tw n.toNat (by omega)
  have a := rcC_in l tw i (by omega)
  have b := rcC_in l tw (i + 1) (by omega)
  exact ⟨hn, f.g, f.h, f.p, x_inC (by omega) f.x, a.g, a.h, a.p, x_inC (by omega) a.x, ⟨by omega, by omega⟩, rcG_in _, (rcH_in a.h).1, a.p, x_inC (by omega) b.x, rcM_in l i⟩
theorem ro_rg {ρ : Env} (l : Nat → Bool) (tw : Bool) {n : Int} (hn : 1 ≤ n ∧ n ≤ 200) {i : Nat} (hi : (i : Int) ≤ n) (bs : List Bool) : AllIn (ρ.on (roSt l tw n i) bs).i roRx 0 := by
  obtain ⟨l0, l1, l2, l3, l4, l5, l6, l7, l8, l9, l10, l11, l12, l13, l14⟩ := roSt_rg l tw hn hi
  simp only [AllIn, Env.on, roSt, roHd, roLaw, List.cons_append, List.nil_append, List.getD_cons_zero, List.getD_cons_succ]
  exact ⟨l0, l1, l2, l3, l4, l5, l6, l7, l8, l9, l10, l11, l12, l13, l14, trivial⟩
theorem rn_rg {ρ : Env} (l : Nat → Bool) (tw : Bool) {n : Int} (hn : 1 ≤ n ∧ n ≤ 200) {i : Nat} (hi : (i : Int) < n) {k : Nat} (hk : k ≤ i + 1) (bs : List Bool) : AllIn (ρ.on (rnSt l tw n i k) bs).i rnRx 0 := by
  obtain ⟨l0, l1, l2, l3, l4, l5, l6, l7, l8, l9, l10, l11, l12, l13, l14⟩ := roSt_rg l tw hn (i := i) (by omega)
  have c := rcN_in l (i - 7) (k - (i - 7))
  have l15 : 0 ≤ (k : Int) ∧ (k : Int) ≤ 200 := by omega
  have l16 : 0 ≤ rcN l (i - 7) (k - (i - 7)) ∧ rcN l (i - 7) (k - (i - 7)) ≤ 200 := by omega
  simp only [AllIn, Env.on, rnSt, roSt, roHd, roLaw, List.cons_append, List.nil_append, List.getD_cons_zero, List.getD_cons_succ]
  exact ⟨l0, l1, l2, l3, l4, l5, l6, l7, l8, l9, l10, l11, l12, l13, l14, l15, l16, trivial⟩
theorem ro_arIn {ρ : Env} {dr : Int → Int} (ha : ρ.a = apR [dr]) : ArIn ρ arN := by
  intro f v h
  have := arIn_R (l := []) ha (fun i v h => by cases h)
  exact this f v (by rw [List.append_nil]; exact h)
theorem ro_next {dr : Int → Int} {l : Nat → Bool} (hl : ∀ i : Nat, dr i = rcBit (l i)) (tw : Bool) {n : Int} {ρ : Env} (ha : ρ.a = apR [dr]) {i : Nat} (hi : (i : Int) < n) : roT.next (ρ.on (roSt l tw n i) [tw]) = some (roHd l tw n (i + 1), [tw]) := by
  have eb : ρ.a 20 i 0 0 = rcBit (l i) := by rw [ha]; exact hl i
  have gi := rcG_in (rcC l tw i).g
  have oi := rcO_in gi
  have hp := rcM_pop l tw i
  have e1 : arI .or .u8 (rcG (rcC l tw i).g) 1 = rcO (rcG (rcC l tw i).g) := or_rc gi
  have e2 : arI .or .u8 (rcO (rcG (rcC l tw i).g)) 1 = rcO (rcG (rcC l tw i).g) := (or_rc oi).trans (rcO_O _)
  have hg : (rcC l tw (i + 1)).g = if l i then rcO (rcG (rcC l tw i).g) else rcG (rcC l tw i).g := rfl
  simp only [roT, RT.next, BE.den, cmpI, IE.den, Env.on, roSt, roHd, roLaw, List.cons_append, List.nil_append, List.getD_cons_zero, List.getD_cons_succ, dens, bdens, List.map_cons, List.map_nil, decide_eq_true hi, cond_true, eb, e1, e2, pop_tab oi, pop_tab gi]
  rw [hg] at hp
  cases h : l i with
  | false =>
    rw [h, if_neg (by decide)] at hp
    rw [hp, show (rcBit false == 1) = false from rfl, cond_false, beq_self_eq_true, cond_true]
    simp only [rcC, h]
    rfl
  | true =>
    rw [h, if_pos rfl] at hp
    rw [hp, show (rcBit true == 1) = true from rfl, cond_true, beq_self_eq_true]
    cases tw
    · rw [cond_false, cond_true]
      simp only [rcC, h]
      rfl
    · rw [cond_true, cond_true]
      simp only [rcC, h]
      rfl
section
variable {W : World} {u : Value} {B : Ext} {dr : Int → Int} (hB : XIn [.bool] W u B [dr]) {l : Nat → Bool} (hl : ∀ i : Nat, dr i = rcBit (l i)) (tw : Bool) {n : Int} (hn : 1 ≤ n ∧ n ≤ 200) (hnB : n = B.len)
include hB hl hn hnB
/-- the inner loop, whatever the state was at its beginning -/
theorem rn_loop {L : LoopSum} {H : St} (hlp : lpB Try.prog rnX 600 16 rnP 1 L H rnT rnE rnB = true) {ρ : Env} (ha : ρ.a = apR [dr]) (hx : ρ.x 0 = some B) {i : Nat} (hi : (i : Int) < n) {E : List (Nat × Nat)} {cd : Code} (hc : codeAt Try.prog 16 rnP = .loop cd) : LoopGoes Try.prog (ρ.on (roSt l tw n i) [tw]) E L cd := by
  have eb : ∀ k : Nat, ρ.a 20 k 0 0 = rcBit (l k) := fun k => by rw [ha]; exact hl k
  refine rt_lpx hlp hc (fun m is bs => ∃ k : Nat, i - 7 ≤ k ∧ k ≤ i + 1 ∧ m = i + 1 - k ∧ bs = [tw] ∧ is = rnSt l tw n i k) ?_ ?_ ⟨i + 1 - (i - 7), rnSt l tw n i (i - 7), [tw], ⟨i - 7, by omega, by omega, rfl, rfl, rfl⟩, ?_, ?_⟩ ?_
  · rintro m is bs ⟨k, _, hk, _, rfl, rfl⟩
    exact knows_env rfl (rn_rg l tw hn hi hk _) (ro_arIn (by exact ha)) (xs_one (xok_one hB (by exact ha) (by exact hnB)) hx)
  · rintro m is bs ⟨k, _, hk, _, rfl, rfl⟩ E
    exact knowsC_all (AllIn.get0 (rn_rg l tw hn hi hk _)) (numA_R ha) (ro_arIn (by exact ha)) (fun c0 hc0 => by cases hc0) LpOk.none
  · have e1 : mxI 0 (plI .sub (i : Int) 7) = ((i - 7 : Nat) : Int) := by
      show (if (i : Int) - 7 > 0 then (i : Int) - 7 else 0) = _
      split <;> omega
    have e2 : rcN l (i - 7) (i - 7 - (i - 7)) = 0 := by rw [Nat.sub_self]; rfl
    refine ⟨[], ?_⟩
    rw [List.append_nil]
    simp only [dens, rnE, List.map_cons, List.map_nil, IE.den, Env.on, rnSt, roSt, roHd, roLaw, List.cons_append, List.nil_append, List.getD_cons_zero, List.getD_cons_succ, e1, e2]
  · exact ⟨[], rfl⟩
  · rintro m is bs ⟨k, h0, hk, rfl, rfl, rfl⟩
    by_cases hlt : k ≤ i
    · have f1 : ¬ ((i : Int) < (k : Int)) := by omega
      have f2 : (k : Int) < n := by omega
      have e1 : k + 1 - (i - 7) = k - (i - 7) + 1 := by omega
      have e2 : i - 7 + (k - (i - 7)) = k := by omega
      refine .inl ⟨rnSt l tw n i (k + 1), [tw], i + 1 - (k + 1), rnSt l tw n i (k + 1), [tw], ?_, by omega, ⟨k + 1, by omega, by omega, rfl, rfl, rfl⟩, ⟨[], by simp⟩, ⟨[], by simp⟩⟩
      simp only [rnT, RT.next, BE.den, cmpI, IE.den, Env.on, rnSt, roSt, roHd, roLaw, List.cons_append, List.nil_append, List.getD_cons_zero, List.getD_cons_succ, dens, bdens, List.map_cons, List.map_nil, decide_eq_false f1, decide_eq_true f2, cond_true, cond_false]
      rw [e1]
      show (bif (ρ.a 20 k 0 0 == 1) then _ else _) = _
      rw [eb, show rcN l (i - 7) (k - (i - 7) + 1) = rcN l (i - 7) (k - (i - 7)) + rcBit (l (i - 7 + (k - (i - 7)))) from rfl, e2]
      cases l k
      · show some _ = some _
        rw [show rcBit false = 0 from rfl, Int.add_zero]
        rfl
      · rfl
    · obtain rfl : k = i + 1 := by omega
      have f1 : (i : Int) < ((i + 1 : Nat) : Int) := by omega
      refine .inr ⟨roSt l tw n i, [tw], ?_, ρ.on_has _ _⟩
      simp only [rnT, RT.out, BE.den, cmpI, IE.den, Env.on, rnSt, roSt, roHd, roLaw, List.cons_append, List.nil_append, List.getD_cons_zero, List.getD_cons_succ, dens, bdens, List.map_cons, List.map_nil, decide_eq_true f1, cond_true]
      rfl
theorem ro_loop {E : List (Nat × Nat)} {cd : Code} (hc : codeAt Try.prog 16 roP = .loop cd) : LoopGoes Try.prog (envOf (roLaw l tw n) [tw] [] [] (apR [dr]) [some B]) E roL cd := by
  generalize hρ : envOf (roLaw l tw n) [tw] [] [] (apR [dr]) [some B] = ρ
  have ha : ρ.a = apR [dr] := by rw [← hρ]
  have hx : ρ.x 0 = some B := by rw [← hρ]; rfl
  refine rt_lpg2 mixed ro_lpB ro_lpB2 hc (fun m is bs => ∃ i : Nat, (i : Int) ≤ n ∧ m = n.toNat - i ∧ bs = [tw] ∧ is = roSt l tw n i) ⟨n.toNat, roSt l tw n 0, [tw], ⟨0, by omega, rfl, rfl, rfl⟩, ?_, ?_⟩ ?_
  · rw [← hρ]
    exact ⟨_, rfl⟩
  · rw [← hρ]
    exact ⟨[], rfl⟩
  · rintro m is bs ⟨i, hi, rfl, rfl, rfl⟩
    have hrg := ro_rg (ρ := ρ) l tw hn hi [tw]
    by_cases hlt : (i : Int) < n
    · have a := rcC_in l tw i (by omega)
      refine .inl ⟨knows_env rfl hrg (ro_arIn (by exact ha)) (xs_one (xok_one hB (by exact ha) (by exact hnB)) hx), fun E => ?_, roHd l tw n (i + 1), [tw], n.toNat - (i + 1), roSt l tw n (i + 1), [tw], ro_next hl tw ha hlt, by omega, ⟨i + 1, by omega, rfl, rfl, rfl⟩, ⟨_, rfl⟩, ⟨[], rfl⟩⟩
      refine knowsC_all (AllIn.get0 hrg) (numA_R ha) (ro_arIn (by exact ha)) (fun c0 hc0 => ?_) ?_
      · rcases List.mem_append.1 hc0 with hc0 | hc0
        · rw [List.mem_singleton.1 hc0]
          intro φ w _
          exact sent_any (rcC l tw i).g (rcC l tw i).h (rcC l tw i).p (rcC l tw i).x (rcC l tw i).x 0 a.g a.h a.p (x_inC (by omega) a.x) (x_inC (by omega) a.x) (by omega) w
        · exact kR11_ok c0 hc0
      · intro f p u L hL cd hcd hbl
        dsimp only [rnLp] at hL
        split at hL
        · rename_i hfp
          simp only [Bool.and_eq_true, Nat.beq_eq, decide_eq_true_eq] at hfp
          obtain ⟨rfl, rfl⟩ := hfp
          split at hL
          · cases hL; exact rn_loop hB hl tw hn hnB ri_lpB ha hx hlt hcd
          · split at hL
            · cases hL; exact rn_loop hB hl tw hn hnB rj_lpB ha hx hlt hcd
            · cases hL; exact rn_loop hB hl tw hn hnB rk_lpB ha hx hlt hcd
        · cases hL
    · obtain rfl : i = n.toNat := by omega
      have hrg2 : AllIn (ρ.on (roSt l tw n n.toNat) [tw]).i (roR ++ [gR, qR, qR, i64R, (0, 200)]) 0 := by
        obtain ⟨l0, l1, l2, l3, l4, l5, l6, l7, l8, l9, _⟩ := roSt_rg l tw hn hi
        simp only [AllIn, Env.on, roSt, roHd, roLaw, List.cons_append, List.nil_append, List.getD_cons_zero, List.getD_cons_succ]
        exact ⟨l0, l1, l2, l3, l4, l5, l6, l7, l8, l9, trivial⟩
      refine .inr ⟨knows_env rfl hrg2 (fun f v h => by cases h) (xs_one (xok_one hB (by exact ha) (by exact hnB)) hx), fun E => knowsC_none rfl rfl rfl, roLaw l tw n, [tw], ?_, by rw [← hρ]; exact envOf_has _ _ _ _ _ _⟩
      have hlt' : ¬ ((n.toNat : Nat) : Int) < n := by omega
      simp only [RT.out, BE.den, cmpI, IE.den, Env.on, roSt, roHd, roLaw, List.cons_append, List.nil_append, List.getD_cons_zero, List.getD_cons_succ, dens, bdens, List.map_cons, List.map_nil, decide_eq_false hlt', cond_false]
end
/-- of a slice that is not empty -/
theorem reachCounts_some {W : World} {u : Value} {B : Ext} {dr : Int → Int} (hB : XIn [.bool] W u B [dr]) (tw : Bool) :
    Calls Try.prog 16 #[u, .bool tw] W fun e w' => e = .returned (.bool true) ∧ Below W.heap.size W w' := by
  have ho : ∀ a, 0 ≤ dr a ∧ dr a ≤ 1 := hB.rg 0 _ rfl
  have hpos := hB.pos
  have hl : ∀ i : Nat, dr i = rcBit (dr i == 1) := fun i => by
    have := ho i
    have h : dr i = 0 ∨ dr i = 1 := by omega
    rcases h with h | h <;> rw [h] <;> rfl
  by_cases hle : B.len ≤ 200
  · have hn : 1 ≤ (B.len : Int) ∧ (B.len : Int) ≤ 200 := by omega
    have key := law_all (ρ := envOf (roLaw (fun i => dr i == 1) tw B.len) [tw] [] [] (apR [dr]) [some B]) (rg := roR) (ar := arN) (f := 16) (args := [.xs 0, .bool (.var 0)])
      (by
        obtain ⟨l0, l1, l2, l3, l4, _⟩ := roSt_rg (fun i => dr i == 1) tw hn (i := 0) (by omega)
        simp only [AllIn, roLaw, List.getD_cons_zero, List.getD_cons_succ]
        exact ⟨l0, l1, l2, l3, l4, trivial⟩)
      (numA_R rfl) (ro_arIn rfl) (cr := kR11) kR11_ok (lp := roLp) ?_ (xs := roXs) (xs_one (xok_one hB rfl rfl) rfl) (.leaf (.bool (.lit true))) (n := 600) (by kernel_rfl) rfl rfl W (ext_one hB rfl)
    · have e : SV.denL (envOf (roLaw (fun i => dr i == 1) tw B.len) [tw] [] [] (apR [dr]) [some B]) id [.xs 0, .bool (.var 0)] = [u, .bool tw] := by
        rw [hB.val]; rfl
      rw [e] at key
      exact key
    · intro f p' uu L hL cd hcd hbl
      dsimp only [roLp] at hL
      split at hL
      · rename_i hfp
        simp only [Bool.and_eq_true, Nat.beq_eq, decide_eq_true_eq] at hfp
        obtain ⟨rfl, rfl⟩ := hfp
        cases hL
        exact ro_loop hB hl tw hn rfl hcd
      · cases hL
  · have hle' := hB.le
    have key := law_all (ρ := envOf [(B.len : Int)] [tw] [] [] (apR [dr]) [some B]) (rg := [(201, 9223372036854775807)]) (ar := arN) (f := 16) (args := [.xs 0, .bool (.var 0)])
      ⟨⟨by show (201 : Int) ≤ (B.len : Nat); omega, by show ((B.len : Nat) : Int) ≤ 9223372036854775807; unfold maxLen at hle'; omega⟩, trivial⟩ (numA_R rfl) (ro_arIn rfl) (cr := kR11) kR11_ok LpOk.none (xs := roXs) (xs_one (xok_one hB rfl rfl) rfl) (.leaf (.bool (.lit true))) (n := 600) (by kernel_rfl) rfl rfl W (ext_one hB rfl)
    have e : SV.denL (envOf [(B.len : Int)] [tw] [] [] (apR [dr]) [some B]) id [.xs 0, .bool (.var 0)] = [u, .bool tw] := by
      rw [hB.val]; rfl
    rw [e] at key
    exact key
theorem reachCounts_walk {W : World} {u : Value} (hu : IsXs [.bool] W u) (tw : Bool) :
    Calls Try.prog 16 #[u, .bool tw] W fun e w' => e = .returned (.bool true) ∧ Below W.heap.size W w' := by
  rcases hu.rows with ⟨a, cap, rfl⟩ | ⟨B, rows, hB⟩
  · exact law_any (bs := [tw]) (fs := []) (is := []) (rg := []) (args := [.raw (.slice a 0 cap), .bool (.var 0)]) trivial (cr := kR11) kR11_ok (.leaf (.bool (.lit true))) (n := 600) (by kernel_rfl) rfl rfl W
  · obtain ⟨dr, rfl⟩ : ∃ dr, rows = [dr] := by
      have := hB.len
      match rows, this with
      | [x], _ => exact ⟨x, rfl⟩
    exact reachCounts_some hB tw
end Go.Proofs.Ytmgfnejiienghaa
