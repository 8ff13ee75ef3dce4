/- Law 11: ReachSilent: the walk. -/
import Derived.Test.YtmgfnejiienghaaT11u
namespace Go.Proofs.Ytmgfnejiienghaa
open Go Go.RowKit Ev
set_option linter.unusedVariables false
set_option linter.unusedSimpArgs false
set_option maxRecDepth 100000

theorem rs_loop {W : World} {u : Value} {B : Ext} {dr : Int → Int} (hB : XIn [.int .u32] W u B [dr]) (ho : ∀ a, 0 ≤ dr a ∧ dr a ≤ 4294967295) (n v : Int) (hn : 1 ≤ n ∧ n ≤ 200) (hnB : n = B.len) (hv : 0 ≤ v ∧ v ≤ 255) {E : List (Nat × Nat)} {w0 : World} {φ0 : Nat → Nat} {st0 : Store} {cd : Code} (hc : codeAt Try.prog 14 rsP = .loop cd) {st : Store} (hbl : ∀ q ∈ rsL.bl, Store.get st q.1 = some q.2) {a : Act} {w : World}
    (hr : RelF (envOf (rsLaw dr n v) [] [] [] (apR [dr]) [some B]) E w0 φ0 st0 ⟨rsL.tm, st⟩ a w) {Q : Exit → Act → World → Prop} (hQ : ∀ a' w', RelF (envOf (rsLaw dr n v) [] [] [] (apR [dr]) [some B]) E w0 φ0 st0 ⟨rsL.tm', setAll st rsL.bl'⟩ a' w' → Q rsL.ex.to a' w') : (Code.loop cd).wp Try.prog Q a w := by
  generalize hρ : envOf (rsLaw dr n v) [] [] [] (apR [dr]) [some B] = ρ at hr hQ
  have ha : ρ.a = apR [dr] := by rw [← hρ]
  have hx : ρ.x 0 = some B := by rw [← hρ]; rfl
  have l := rsN_le v
  refine rt_lpx rs_lpB hc (fun m is bs => ∃ k : Nat, k ≤ rsN v ∧ m = rsN v - k ∧ bs = [] ∧ is = rsSt dr n v k) ?_ ?_ ⟨rsN v, rsSt dr n v 0, _, ⟨0, by omega, rfl, rfl, rfl⟩, ?_, ?_⟩ ?_ hbl hr hQ
  · rintro m is bs ⟨k, hk, _, rfl, rfl⟩
    refine knows_env rfl (rs_rg ho hn hv (by omega) _) (rs_arIn (by exact ha) ho) (xs_one (xok_one hB (by exact ha) ?_) hx)
    exact hnB
  · rintro m is bs ⟨k, hk, _, rfl, rfl⟩ E
    have i := rcA_in k (by omega)
    refine knowsC_all (AllIn.get0 (rs_rg ho hn hv (by omega) _)) (numA_R ha) (rs_arIn (by exact ha) ho) (fun c0 hc0 => ?_) LpOk.none
    rcases List.mem_append.1 hc0 with hc0 | hc0
    · rw [List.mem_singleton.1 hc0]
      intro φ w _
      have key := sent_any (rcA k).g (rcA k).h (rcA k).p (rcA k).x (rcA k).x 0 i.g i.h i.p (x_in (by omega) i.x) (x_in (by omega) i.x) (by omega) w
      exact key
    · exact kR11_ok c0 hc0
  · rw [← hρ]
    exact ⟨_, rfl⟩
  · exact ⟨_, rfl⟩
  · rintro m is bs ⟨k, hk, rfl, rfl, rfl⟩
    by_cases hlt : k < rsN v
    · exact .inl ⟨_, [], rsN v - (k + 1), rsSt dr n v (k + 1), _, rs_next hv hlt, by omega, ⟨k + 1, by omega, rfl, rfl, rfl⟩, ⟨_, rfl⟩, ⟨_, rfl⟩⟩
    · obtain rfl : k = rsN v := by omega
      refine .inr ⟨rsLaw dr n v, [], ?_, ?_⟩
      · have hlt' : ¬ ((rsN v : Nat) : Int) < (rsN v : Nat) := by omega
        simp only [rsT, RT.out, BE.den, cmpI, IE.den, Env.on, rsSt, rsHd, rsLaw, List.cons_append, List.nil_append, List.getD_cons_zero, List.getD_cons_succ, dens, bdens, List.map_cons, List.map_nil, rem20 hv, decide_eq_false hlt', cond_false]
        rfl
      · rw [← hρ]; exact envOf_has _ _ _ _ _ _
theorem rt_loop {W : World} {u : Value} {B : Ext} {dr : Int → Int} (hB : XIn [.int .u32] W u B [dr]) (ho : ∀ a, 0 ≤ dr a ∧ dr a ≤ 4294967295) (n v : Int) (hn : 1 ≤ n ∧ n ≤ 200) (hnB : n = B.len) (hv : 0 ≤ v ∧ v ≤ 255) {E : List (Nat × Nat)} {w0 : World} {φ0 : Nat → Nat} {st0 : Store} {cd : Code} (hc : codeAt Try.prog 14 rtP = .loop cd) {st : Store} (hbl : ∀ q ∈ rtL.bl, Store.get st q.1 = some q.2) {a : Act} {w : World}
    (hr : RelF (envOf (rsLaw dr n v) [] [] [] (apR [dr]) [some B]) E w0 φ0 st0 ⟨rtL.tm, st⟩ a w) {Q : Exit → Act → World → Prop} (hQ : ∀ a' w', RelF (envOf (rsLaw dr n v) [] [] [] (apR [dr]) [some B]) E w0 φ0 st0 ⟨rtL.tm', setAll st rtL.bl'⟩ a' w' → Q rtL.ex.to a' w') : (Code.loop cd).wp Try.prog Q a w := by
  generalize hρ : envOf (rsLaw dr n v) [] [] [] (apR [dr]) [some B] = ρ at hr hQ
  have ha : ρ.a = apR [dr] := by rw [← hρ]
  have hx : ρ.x 0 = some B := by rw [← hρ]; rfl
  have l := rsN_le v
  refine rt_lpx rt_lpB hc (fun m is bs => ∃ k : Nat, (k : Int) ≤ n ∧ m = n.toNat - k ∧ bs = [] ∧ is = rtSt dr n v k) ?_ ?_ ⟨n.toNat, rtSt dr n v 0, _, ⟨0, by omega, rfl, rfl, rfl⟩, ?_, ?_⟩ ?_ hbl hr hQ
  · rintro m is bs ⟨k, hk, _, rfl, rfl⟩
    refine knows_env rfl (rt_rg ho hn hv hk _) (rs_arIn (by exact ha) ho) (xs_one (xok_one hB (by exact ha) ?_) hx)
    exact hnB
  · rintro m is bs ⟨k, hk, _, rfl, rfl⟩ E
    have i := rcB_in (rsS2_in v) ho k (by omega)
    refine knowsC_all (AllIn.get0 (rt_rg ho hn hv hk _)) (numA_R ha) (rs_arIn (by exact ha) ho) (fun c0 hc0 => ?_) LpOk.none
    have e0 : ρ.a 20 k 0 0 = dr k := by rw [ha]; rfl
    rcases List.mem_append.1 hc0 with hc0 | hc0
    · rw [List.mem_singleton.1 hc0]
      intro φ w _
      have key := sent_any (rcB (rsS2 v) dr k).g (rcB (rsS2 v) dr k).h 10 (rcB (rsS2 v) dr k).x (rcB (rsS2 v) dr k).x (dr k) i.g i.h (by omega) (x_in (by omega) i.x) (x_in (by omega) i.x) (ho _) w
      have e2 : SV.denL (ρ.on (rtSt dr n v k) []) φ [stdS, .agg [.int .u8 (.var 9), .int .i64 (.var 10), .int .i64 (.lit 10), .int .i64 (.lit 0), .int .i64 (.var 11)], .int .i64 (.var 11), .int .u32 (.ap 20 (.var 12) (.lit 0) (.lit 0))] = [stdS.den (envOf []) id, rcV (rcB (rsS2 v) dr k).g (rcB (rsS2 v) dr k).h 10 (rcB (rsS2 v) dr k).x, .int .i64 (rcB (rsS2 v) dr k).x, .int .u32 (dr k)] := by
        rw [← e0]; rfl
      show Calls _ _ (SV.denL _ φ [stdS, .agg [.int .u8 (.var 9), .int .i64 (.var 10), .int .i64 (.lit 10), .int .i64 (.lit 0), .int .i64 (.var 11)], .int .i64 (.var 11), .int .u32 (.ap 20 (.var 12) (.lit 0) (.lit 0))]).toArray w _
      rw [e2]
      exact key
    · exact kR11_ok c0 hc0
  · rw [← hρ]
    have e : (rcB (rsS2 v) dr 0).g = arI .or .u8 (rsS1 v).g 1 := (or_rc (rsS1_in v).g).symm
    refine ⟨[(rcB (rsS2 v) dr 1).g, (rcB (rsS2 v) dr 1).h, (rcB (rsS2 v) dr 1).x], ?_⟩
    simp only [rtSt, rtHd, e]
    rfl
  · exact ⟨_, rfl⟩
  · rintro m is bs ⟨k, hk, rfl, rfl, rfl⟩
    by_cases hlt : (k : Int) < n
    · exact .inl ⟨_, [], n.toNat - (k + 1), rtSt dr n v (k + 1), _, rt_next ho hn hlt, by omega, ⟨k + 1, by omega, rfl, rfl, rfl⟩, ⟨_, rfl⟩, ⟨_, rfl⟩⟩
    · obtain rfl : k = n.toNat := by omega
      refine .inr ⟨rsLaw dr n v, [], ?_, ?_⟩
      · have hlt' : ¬ ((n.toNat : Nat) : Int) < n := by omega
        simp only [rtT, RT.out, BE.den, cmpI, IE.den, Env.on, rtSt, rtHd, rsLaw, List.cons_append, List.nil_append, List.getD_cons_zero, List.getD_cons_succ, dens, bdens, List.map_cons, List.map_nil, decide_eq_false hlt', cond_false]
      · rw [← hρ]; exact envOf_has _ _ _ _ _ _
abbrev rsLp : FuncId → List Nat → Nat → Option LoopSum := fun f p _ => if Nat.beq f 14 && decide (p = rsP) then some rsL else if Nat.beq f 14 && decide (p = rtP) then some rtL else none
/-- of a slice that is not empty -/
theorem reachSilent_some {W : World} {u : Value} {B : Ext} {dr : Int → Int} (hB : XIn [.int .u32] W u B [dr]) (v : Int) (hv : 0 ≤ v ∧ v ≤ 255) :
    Calls Try.prog 14 #[u, .int .u8 v] W fun e w' => e = .returned (.bool true) ∧ Below W.heap.size W w' := by
  have ho : ∀ a, 0 ≤ dr a ∧ dr a ≤ 4294967295 := hB.rg 0 _ rfl
  have hpos := hB.pos
  by_cases hl : B.len ≤ 200
  · have hn : 1 ≤ (B.len : Int) ∧ (B.len : Int) ≤ 200 := by omega
    have fin := (rcB_in (rsS2_in v) ho B.len (by have := rsN_le v; omega)).x.1
    have key := law_all (ρ := envOf (rsLaw dr B.len v) [] [] [] (apR [dr]) [some B]) (rg := rsR) (ar := rsAr) (f := 14) (args := [.xs 0, .int .u8 (.var 1)])
      (by
        obtain ⟨l0, l1, l2, l3, l4, l5, l6, l7, l8⟩ := rsLaw_rg (ρ := envOf []) ho hn hv
        simp only [AllIn, rsLaw, List.getD_cons_zero, List.getD_cons_succ]
        exact ⟨l0, l1, l2, l3, l4, l5, l6, l7, l8, trivial⟩)
      (numA_R rfl) (rs_arIn rfl ho) (cr := kR11) kR11_ok (lp := rsLp) ?_ (xs := rsXs) (xs_one (xok_one hB rfl rfl) rfl) (.leaf (.bool (.cmp .geq (.var 8) (.lit 0)))) (n := 600) (by kernel_rfl) rfl (by
        show Value.bool (decide ((rcB (rsS2 v) dr B.len).x ≥ 0)) = _
        rw [decide_eq_true fin]) W (ext_one hB rfl)
    · have e : SV.denL (envOf (rsLaw dr B.len v) [] [] [] (apR [dr]) [some B]) id [.xs 0, .int .u8 (.var 1)] = [u, .int .u8 v] := by
        rw [hB.val]; rfl
      rw [e] at key
      exact key
    · intro f p' uu L hL cd hcd st hbl _ w0 φ0 st0 a w hr Q hQ
      dsimp only [rsLp] at hL
      split at hL
      · rename_i hfp
        simp only [Bool.and_eq_true, Nat.beq_eq, decide_eq_true_eq] at hfp
        obtain ⟨rfl, rfl⟩ := hfp
        cases hL
        exact rs_loop hB ho B.len v hn rfl hv hcd hbl hr hQ
      · split at hL
        · rename_i hfp
          simp only [Bool.and_eq_true, Nat.beq_eq, decide_eq_true_eq] at hfp
          obtain ⟨rfl, rfl⟩ := hfp
          cases hL
          exact rt_loop hB ho B.len v hn rfl hv hcd hbl hr hQ
        · cases hL
  · have hle := hB.le
    have key := law_all (ρ := envOf [(B.len : Int), v] [] [] [] (apR [dr]) [some B]) (rg := [(201, 9223372036854775807), gR]) (ar := rsAr) (f := 14) (args := [.xs 0, .int .u8 (.var 1)])
      ⟨⟨by show (201 : Int) ≤ (B.len : Nat); omega, by show ((B.len : Nat) : Int) ≤ 9223372036854775807; unfold maxLen at hle; omega⟩, hv, trivial⟩ (numA_R rfl) (rs_arIn rfl ho) (cr := kR11) kR11_ok LpOk.none (xs := rsXs) (xs_one (xok_one hB rfl rfl) rfl) (.leaf (.bool (.lit true))) (n := 600) (by kernel_rfl) rfl rfl W (ext_one hB rfl)
    have e : SV.denL (envOf [(B.len : Int), v] [] [] [] (apR [dr]) [some B]) id [.xs 0, .int .u8 (.var 1)] = [u, .int .u8 v] := by
      rw [hB.val]; rfl
    rw [e] at key
    exact key
end Go.Proofs.Ytmgfnejiienghaa
