/- Law 12: ChecksCounts. -/
import Derived.Test.YtmgfnejiienghaaT12
namespace Go.Proofs.Ytmgfnejiienghaa
open Go Go.RowKit Ev
set_option linter.unusedVariables false
set_option linter.unusedSimpArgs false
set_option maxRecDepth 100000

abbrev U0 : SV := .raw (.tuple #[])
def ccL : LoopSum := ⟨[(.xs 0), U0, (.bool (.lit false)), (.ptr 1048586 0), (.int .i64 (.lit 0)), U0, U0, (.xs 0), (.int .i64 (.var 0)), (.bool (.cmp .gtr (.var 0) (.lit 1024))), (.bool (.cmp .gtr (.var 0) (.lit 1024))), (.bool (.lit true)), (.bool (.lit false)), (.bool (.lit false)), U0, (.agg [(.int .i64 (.lit 0)), (.int .i64 (.lit 0)), (.int .i64 (.lit 0)), (.int .i64 (.lit 0)), (.int .i64 (.lit 0)), (.int .i64 (.lit 0)), (.int .i64 (.lit 0)), (.int .i64 (.lit 0)), (.int .i64 (.lit 0)), (.int .i64 (.lit 0))]), U0, U0, U0, U0, U0, U0, U0, U0, U0, U0, U0, U0, U0, U0, U0, U0, U0, U0, U0, U0, U0, U0, U0, U0, U0, U0, U0, U0, U0], [(1048586, ⟨55, [(.int .i64 (.lit 0)), (.int .i64 (.lit 0)), (.int .i64 (.lit 0)), (.int .i64 (.lit 0)), (.int .i64 (.lit 0)), (.int .i64 (.lit 0)), (.int .i64 (.lit 0)), (.int .i64 (.lit 0)), (.int .i64 (.lit 0)), (.int .i64 (.lit 0))]⟩)],
  (.exit 0), [(.xs 0), U0, (.bool (.lit false)), (.ptr 1048586 0), .any, U0, U0, (.xs 0), (.int .i64 (.var 0)), (.bool (.cmp .gtr (.var 0) (.lit 1024))), (.bool (.cmp .gtr (.var 0) (.lit 1024))), (.bool (.lit true)), (.bool (.lit false)), (.bool (.lit false)), U0, (.agg [(.int .i64 (.lit 0)), (.int .i64 (.lit 0)), (.int .i64 (.lit 0)), (.int .i64 (.lit 0)), (.int .i64 (.lit 0)), (.int .i64 (.lit 0)), (.int .i64 (.lit 0)), (.int .i64 (.lit 0)), (.int .i64 (.lit 0)), (.int .i64 (.lit 0))]), .any, .any, .any, .any, .any, .any, .any, .any, .any, .any, .any, .any, U0, U0, U0, U0, U0, U0, U0, U0, U0, U0, U0, U0, U0, U0, U0, U0, U0], [(1048586, ⟨55, [(.int .i64 (.var 1)), (.int .i64 (.var 2)), (.int .i64 (.var 3)), (.int .i64 (.var 4)), (.int .i64 (.var 5)), (.int .i64 (.var 6)), (.int .i64 (.var 7)), (.int .i64 (.var 8)), (.int .i64 (.var 9)), (.int .i64 (.var 10))]⟩)]⟩
def ccH : St := ⟨Tm.ofL [(.xs 0), U0, (.bool (.lit false)), (.ptr 1048586 0), (.int .i64 (.var 21)), U0, U0, (.xs 0), (.int .i64 (.var 0)), (.bool (.cmp .gtr (.var 0) (.lit 1024))), (.bool (.cmp .gtr (.var 0) (.lit 1024))), (.bool (.lit true)), (.bool (.lit false)), (.bool (.lit false)), U0, (.agg [(.int .i64 (.lit 0)), (.int .i64 (.lit 0)), (.int .i64 (.lit 0)), (.int .i64 (.lit 0)), (.int .i64 (.lit 0)), (.int .i64 (.lit 0)), (.int .i64 (.lit 0)), (.int .i64 (.lit 0)), (.int .i64 (.lit 0)), (.int .i64 (.lit 0))]), .any, .any, .any, .any, .any, .any, .any, .any, .any, .any, .any, .any, U0, U0, U0, U0, U0, U0, U0, U0, U0, U0, U0, U0, U0, U0, U0, U0, U0], [(1048586, ⟨55, [(.int .i64 (.var 11)), (.int .i64 (.var 12)), (.int .i64 (.var 13)), (.int .i64 (.var 14)), (.int .i64 (.var 15)), (.int .i64 (.var 16)), (.int .i64 (.var 17)), (.int .i64 (.var 18)), (.int .i64 (.var 19)), (.int .i64 (.var 20))]⟩)]⟩
def ccE : List IE := [(.var 0), (.var 1), (.var 2), (.var 3), (.var 4), (.var 5), (.var 6), (.var 7), (.var 8), (.var 9), (.var 10), (.lit 0), (.lit 0), (.lit 0), (.lit 0), (.lit 0), (.lit 0), (.lit 0), (.lit 0), (.lit 0), (.lit 0), (.lit 0)]
def ccB : List BE := []
def ccT : RT :=
(.node (.cmp .lss (.var 21) (.var 0))
 (.node (.cmp .eql (.var 22) (.lit 0))
 (.go [(.var 0), (.var 1), (.var 2), (.var 3), (.var 4), (.var 5), (.var 6), (.var 7), (.var 8), (.var 9), (.var 10), (.pl .add (.var 11) (.lit 1)), (.var 12), (.var 13), (.var 14), (.var 15), (.var 16), (.var 17), (.var 18), (.var 19), (.var 20), (.pl .add (.var 21) (.lit 1))] [])
 (.node (.cmp .eql (.var 22) (.lit 1))
 (.go [(.var 0), (.var 1), (.var 2), (.var 3), (.var 4), (.var 5), (.var 6), (.var 7), (.var 8), (.var 9), (.var 10), (.var 11), (.pl .add (.var 12) (.lit 1)), (.var 13), (.var 14), (.var 15), (.var 16), (.var 17), (.var 18), (.var 19), (.var 20), (.pl .add (.var 21) (.lit 1))] [])
 (.node (.cmp .eql (.var 22) (.lit 2))
 (.go [(.var 0), (.var 1), (.var 2), (.var 3), (.var 4), (.var 5), (.var 6), (.var 7), (.var 8), (.var 9), (.var 10), (.var 11), (.var 12), (.pl .add (.var 13) (.lit 1)), (.var 14), (.var 15), (.var 16), (.var 17), (.var 18), (.var 19), (.var 20), (.pl .add (.var 21) (.lit 1))] [])
 (.node (.cmp .eql (.var 22) (.lit 3))
 (.go [(.var 0), (.var 1), (.var 2), (.var 3), (.var 4), (.var 5), (.var 6), (.var 7), (.var 8), (.var 9), (.var 10), (.var 11), (.var 12), (.var 13), (.pl .add (.var 14) (.lit 1)), (.var 15), (.var 16), (.var 17), (.var 18), (.var 19), (.var 20), (.pl .add (.var 21) (.lit 1))] [])
 (.node (.cmp .eql (.var 22) (.lit 4))
 (.go [(.var 0), (.var 1), (.var 2), (.var 3), (.var 4), (.var 5), (.var 6), (.var 7), (.var 8), (.var 9), (.var 10), (.var 11), (.var 12), (.var 13), (.var 14), (.pl .add (.var 15) (.lit 1)), (.var 16), (.var 17), (.var 18), (.var 19), (.var 20), (.pl .add (.var 21) (.lit 1))] [])
 (.node (.cmp .eql (.var 22) (.lit 5))
 (.go [(.var 0), (.var 1), (.var 2), (.var 3), (.var 4), (.var 5), (.var 6), (.var 7), (.var 8), (.var 9), (.var 10), (.var 11), (.var 12), (.var 13), (.var 14), (.var 15), (.pl .add (.var 16) (.lit 1)), (.var 17), (.var 18), (.var 19), (.var 20), (.pl .add (.var 21) (.lit 1))] [])
 (.node (.cmp .eql (.var 22) (.lit 6))
 (.go [(.var 0), (.var 1), (.var 2), (.var 3), (.var 4), (.var 5), (.var 6), (.var 7), (.var 8), (.var 9), (.var 10), (.var 11), (.var 12), (.var 13), (.var 14), (.var 15), (.var 16), (.pl .add (.var 17) (.lit 1)), (.var 18), (.var 19), (.var 20), (.pl .add (.var 21) (.lit 1))] [])
 (.node (.cmp .eql (.var 22) (.lit 7))
 (.go [(.var 0), (.var 1), (.var 2), (.var 3), (.var 4), (.var 5), (.var 6), (.var 7), (.var 8), (.var 9), (.var 10), (.var 11), (.var 12), (.var 13), (.var 14), (.var 15), (.var 16), (.var 17), (.pl .add (.var 18) (.lit 1)), (.var 19), (.var 20), (.pl .add (.var 21) (.lit 1))] [])
 (.node (.cmp .eql (.var 22) (.lit 8))
 (.go [(.var 0), (.var 1), (.var 2), (.var 3), (.var 4), (.var 5), (.var 6), (.var 7), (.var 8), (.var 9), (.var 10), (.var 11), (.var 12), (.var 13), (.var 14), (.var 15), (.var 16), (.var 17), (.var 18), (.pl .add (.var 19) (.lit 1)), (.var 20), (.pl .add (.var 21) (.lit 1))] [])
 (.node (.cmp .eql (.var 22) (.lit 9))
 (.go [(.var 0), (.var 1), (.var 2), (.var 3), (.var 4), (.var 5), (.var 6), (.var 7), (.var 8), (.var 9), (.var 10), (.var 11), (.var 12), (.var 13), (.var 14), (.var 15), (.var 16), (.var 17), (.var 18), (.var 19), (.pl .add (.var 20) (.lit 1)), (.pl .add (.var 21) (.lit 1))] [])
 .dead))))))))))
 (.stop [(.var 0), (.var 11), (.var 12), (.var 13), (.var 14), (.var 15), (.var 16), (.var 17), (.var 18), (.var 19), (.var 20)] []))

/-- how many of the first ones have a cause -/
def cIt (off : Int → Int) (j : Int) : Nat → Int
  | 0 => 0
  | k + 1 => cIt off j k + (if causeN (off k) = j then 1 else 0)
theorem cIt_in (off : Int → Int) (j : Int) : ∀ k : Nat, 0 ≤ cIt off j k ∧ cIt off j k ≤ k
  | 0 => ⟨Int.le_refl _, Int.le_refl _⟩
  | k + 1 => by
    have := cIt_in off j k
    simp only [cIt]
    split <;> omega
theorem cause_cases (e : Int) : causeN e = 0 ∨ causeN e = 1 ∨ causeN e = 2 ∨ causeN e = 3 ∨ causeN e = 4 ∨ causeN e = 5 ∨ causeN e = 6 ∨ causeN e = 7 ∨ causeN e = 8 ∨ causeN e = 9 := by
  have := causeN_in e
  omega
theorem cIt_sum (off : Int → Int) : ∀ k : Nat, cIt off 0 k + cIt off 1 k + cIt off 2 k + cIt off 3 k + cIt off 4 k + cIt off 5 k + cIt off 6 k + cIt off 7 k + cIt off 8 k + cIt off 9 k = k
  | 0 => rfl
  | k + 1 => by
    have := cIt_sum off k
    simp only [cIt]
    rcases cause_cases (off k) with h | h | h | h | h | h | h | h | h | h <;> rw [h] <;> simp <;> omega
abbrev cN : Int × Int := (0, 1024)
abbrev ccR : List (Int × Int) := [(1, 1024), cN, cN, cN, cN, cN, cN, cN, cN, cN, cN]
abbrev ccRx : List (Int × Int) := [(1, 1024), cN, cN, cN, cN, cN, cN, cN, cN, cN, cN, cN, cN, cN, cN, cN, cN, cN, cN, cN, cN, cN, (0, 9)]
noncomputable abbrev ccAr : List (Int × Int) := arN ++ [i64J]
abbrev ccXs : List XD := [⟨0, 20, [.int .i64]⟩]
abbrev ccK0 : List (FuncId × List SV × SV) := [(28, [], .bool (.lit true))]
abbrev ccK : List (FuncId × List SV × SV) := [(49, [.int .i64 (.ap 20 (.var 21) (.lit 0) (.lit 0))], .int .i64 (.var 22))] ++ ccK0
noncomputable abbrev ccX : Ctx := { pc := [], cr := ccK ++ crS, rg := ccRx, ar := ccAr, ct := conCt ccRx ccAr consN, xs := ccXs }
abbrev ccP : List Nat := [0, 1, 0, 1, 1, 1]
theorem cc_lpB : lpB Try.prog ccX 600 8 ccP 1 ccL ccH ccT ccE ccB = true := by kernel_rfl
abbrev ccLaw (off : Int → Int) (n : Int) : List Int := [n, cIt off 0 n.toNat, cIt off 1 n.toNat, cIt off 2 n.toNat, cIt off 3 n.toNat, cIt off 4 n.toNat, cIt off 5 n.toNat, cIt off 6 n.toNat, cIt off 7 n.toNat, cIt off 8 n.toNat, cIt off 9 n.toNat]
abbrev ccHd (off : Int → Int) (n : Int) (k : Nat) : List Int := ccLaw off n ++ [cIt off 0 k, cIt off 1 k, cIt off 2 k, cIt off 3 k, cIt off 4 k, cIt off 5 k, cIt off 6 k, cIt off 7 k, cIt off 8 k, cIt off 9 k, (k : Int)]
abbrev ccSt (off : Int → Int) (n : Int) (k : Nat) : List Int := ccHd off n k ++ [causeN (off k)]
theorem cc_one {off : Int → Int} {j : Int} {k : Nat} {n : Int} (hn : n ≤ 1024) (hk : (k : Int) ≤ n) : (0 : Int) ≤ cIt off j k ∧ cIt off j k ≤ 1024 := by
  have := cIt_in off j k
  omega
theorem cc_rg {ρ : Env} {off : Int → Int} {n : Int} (hn : 1 ≤ n ∧ n ≤ 1024) {k : Nat} (hk : (k : Int) ≤ n) (bs : List Bool) : AllIn (ρ.on (ccSt off n k) bs).i ccRx 0 := by
  have hN : ((n.toNat : Nat) : Int) ≤ n := by omega
  simp only [AllIn, Env.on, ccSt, ccHd, ccLaw, List.cons_append, List.nil_append, List.getD_cons_zero, List.getD_cons_succ]
  exact ⟨hn, cc_one hn.2 hN, cc_one hn.2 hN, cc_one hn.2 hN, cc_one hn.2 hN, cc_one hn.2 hN, cc_one hn.2 hN, cc_one hn.2 hN, cc_one hn.2 hN, cc_one hn.2 hN, cc_one hn.2 hN, cc_one hn.2 hk, cc_one hn.2 hk, cc_one hn.2 hk, cc_one hn.2 hk, cc_one hn.2 hk, cc_one hn.2 hk, cc_one hn.2 hk, cc_one hn.2 hk, cc_one hn.2 hk, cc_one hn.2 hk, ⟨by omega, by omega⟩, causeN_in _, trivial⟩
theorem cc_arIn {ρ : Env} {off : Int → Int} (ha : ρ.a = apR [off]) (ho : ∀ a, InI (off a)) : ArIn ρ ccAr := by
  refine arIn_R ha (fun i v h a => ?_)
  rcases i with _ | i <;> simp at h
  subst h
  exact ho a
theorem cc_next {ρ : Env} {off : Int → Int} {n : Int} {k : Nat} (hk : (k : Int) < n) (bs : List Bool) : ccT.next (ρ.on (ccSt off n k) bs) = some (ccHd off n (k + 1), []) := by
  have hm := cause_cases (off k)
  simp only [ccT, RT.next, BE.den, cmpI, IE.den, Env.on, ccSt, ccHd, ccLaw, List.cons_append, List.nil_append, List.getD_cons_zero, List.getD_cons_succ, dens, bdens, List.map_cons, List.map_nil, plI, cIt]
  generalize causeN (off k) = m at *
  rw [decide_eq_true hk, cond_true]
  rcases hm with rfl | rfl | rfl | rfl | rfl | rfl | rfl | rfl | rfl | rfl <;> simp
theorem cc_loop {W : World} {v : Value} {B : Ext} {off : Int → Int} (hB : XIn [.int .i64] W v B [off]) (ho : ∀ a, InI (off a)) (n : Int) (hn : 1 ≤ n ∧ n ≤ 1024) (hnB : n = B.len) {E : List (Nat × Nat)} {cd : Code} (hc : codeAt Try.prog 8 ccP = .loop cd) :
    LoopGoes Try.prog (envOf (ccLaw off n) [] [] [] (apR [off]) [some B]) E ccL cd := by
  generalize hρ : envOf (ccLaw off n) [] [] [] (apR [off]) [some B] = ρ
  have ha : ρ.a = apR [off] := by rw [← hρ]
  have hx : ρ.x 0 = some B := by rw [← hρ]; rfl
  refine rt_lpx cc_lpB hc (fun m is bs => ∃ k : Nat, (k : Int) ≤ n ∧ m = n.toNat - k ∧ bs = [] ∧ is = ccSt off n k) ?_ ?_ ⟨n.toNat, ccSt off n 0, _, ⟨0, by omega, rfl, rfl, rfl⟩, ?_, ?_⟩ ?_
  · rintro m is bs ⟨k, hk, _, rfl, rfl⟩
    refine knows_env rfl (cc_rg hn hk _) (cc_arIn (by exact ha) ho) (xs_one (xok_one hB (by exact ha) ?_) hx)
    exact hnB
  · rintro m is bs ⟨k, hk, _, rfl, rfl⟩ E
    refine knowsC_all (AllIn.get0 (cc_rg hn hk _)) (numA_R ha) (cc_arIn (by exact ha) ho) (fun c0 hc0 => ?_) LpOk.none
    have e0 : ρ.a 20 k 0 0 = off k := by rw [ha]; rfl
    rcases List.mem_append.1 hc0 with hc0 | hc0
    · rw [List.mem_singleton.1 hc0]
      intro φ w _
      have key := cause_any (off k) (ho k) w
      have e2 : SV.denL (ρ.on (ccSt off n k) []) φ [.int .i64 (.ap 20 (.var 21) (.lit 0) (.lit 0))] = [.int .i64 (off k)] := by
        rw [← e0]; rfl
      show Calls _ _ (SV.denL _ φ [.int .i64 (.ap 20 (.var 21) (.lit 0) (.lit 0))]).toArray w _
      rw [e2]
      exact key
    · rw [List.mem_singleton.1 hc0]; exact known12
  · rw [← hρ]
    exact ⟨_, rfl⟩
  · exact ⟨_, rfl⟩
  · rintro m is bs ⟨k, hk, rfl, rfl, rfl⟩
    by_cases hlt : (k : Int) < n
    · exact .inl ⟨_, [], n.toNat - (k + 1), ccSt off n (k + 1), _, cc_next hlt _, by omega, ⟨k + 1, by omega, rfl, rfl, rfl⟩, ⟨_, rfl⟩, ⟨_, rfl⟩⟩
    · obtain rfl : k = n.toNat := by omega
      refine .inr ⟨ccLaw off n, [], ?_, ?_⟩
      · have hlt' : ¬ ((n.toNat : Nat) : Int) < n := by omega
        simp only [ccT, RT.out, BE.den, cmpI, IE.den, Env.on, ccSt, ccHd, ccLaw, List.cons_append, List.nil_append, List.getD_cons_zero, List.getD_cons_succ, dens, bdens, List.map_cons, List.map_nil, decide_eq_false hlt', cond_false]
      · rw [← hρ]; exact envOf_has _ _ _ _ _ _
def ccTree : Tree := .leaf (.bool (.cmp .eql (.pl .add (.pl .add (.pl .add (.pl .add (.pl .add (.pl .add (.pl .add (.pl .add (.pl .add (.pl .add (.lit 0) (.var 1)) (.var 2)) (.var 3)) (.var 4)) (.var 5)) (.var 6)) (.var 7)) (.var 8)) (.var 9)) (.var 10)) (.var 0)))
theorem cc_empty (a : Option Addr) (cap : Nat) : (Tree.leaf (.bool (.lit true))).check Try.prog { pc := [], cr := ccK0 ++ crS, rg := [(0, 0)], ar := arN, ct := conCt [(0, 0)] arN consN } 600 8 [.raw (.slice a 0 cap)] = true := by
  kernel_rfl
theorem ccK0_ok {ρ : Env} : ∀ c ∈ ccK0, Known Try.prog ρ c := List.forall_mem_cons.2 ⟨known12, List.forall_mem_nil _⟩
theorem checksCounts_walk {W : World} {v : Value} (hv : IsXs [.int .i64] W v) :
    Calls Try.prog 8 #[v] W fun e w' => e = .returned (.bool true) ∧ Below W.heap.size W w' := by
  rcases hv.rows with ⟨a, cap, rfl⟩ | ⟨B, rows, hB⟩
  · exact law_any (bs := []) (fs := []) (is := [0]) (rg := [(0, 0)]) (args := [.raw (.slice a 0 cap)]) ⟨⟨Int.le_refl _, Int.le_refl _⟩, trivial⟩ (cr := ccK0) ccK0_ok _ (n := 600) (cc_empty a cap) rfl rfl W
  · obtain ⟨off, rfl⟩ : ∃ off, rows = [off] := by
      have := hB.len
      match rows, this with
      | [x], _ => exact ⟨x, rfl⟩
    have ho : ∀ a, InI (off a) := hB.rg 0 _ rfl
    have hpos := hB.pos
    by_cases hl : B.len ≤ 1024
    · have key := law_all (ρ := envOf (ccLaw off B.len) [] [] [] (apR [off]) [some B]) (rg := ccR) (ar := ccAr) (f := 8) (args := [.xs 0])
        (by
          have hN : ((((B.len : Nat) : Int).toNat : Nat) : Int) ≤ B.len := by omega
          have h1 : ((B.len : Nat) : Int) ≤ 1024 := by omega
          simp only [AllIn, ccLaw, List.getD_cons_zero, List.getD_cons_succ]
          exact ⟨⟨by omega, by omega⟩, cc_one h1 hN, cc_one h1 hN, cc_one h1 hN, cc_one h1 hN, cc_one h1 hN, cc_one h1 hN, cc_one h1 hN, cc_one h1 hN, cc_one h1 hN, cc_one h1 hN, trivial⟩)
        (numA_R rfl) (cc_arIn rfl ho) (cr := ccK0) ccK0_ok (lp := fun f p _ => if Nat.beq f 8 && decide (p = ccP) then some ccL else none) ?_ (xs := ccXs) (xs_one (xok_one hB rfl rfl) rfl) ccTree (n := 600) (v := .bool true) (by kernel_rfl) rfl ?_ W (ext_one hB rfl)
      · have e : SV.denL (envOf (ccLaw off B.len) [] [] [] (apR [off]) [some B]) id [.xs 0] = [v] := by
          rw [hB.val]; rfl
        rw [e] at key
        exact key
      · intro f p' u L hL cd hcd _
        dsimp only at hL
        split at hL
        · rename_i hfp
          simp only [Bool.and_eq_true, Nat.beq_eq, decide_eq_true_eq] at hfp
          obtain ⟨rfl, rfl⟩ := hfp
          cases hL
          exact cc_loop hB ho B.len ⟨by omega, by omega⟩ rfl hcd
        · cases hL
      · have := cIt_sum off (((B.len : Nat) : Int).toNat)
        simp only [ccTree, Tree.val, SV.den, BE.den, cmpI, IE.den, plI, ccLaw, List.getD_cons_zero, List.getD_cons_succ]
        congr 1
        rw [beq_iff_eq]
        omega
    · have hle := hB.le
      have key := law_all (ρ := envOf [(B.len : Int)] [] [] [] (apR [off]) [some B]) (rg := [(1025, 9223372036854775807)]) (ar := ccAr) (f := 8) (args := [.xs 0])
        ⟨⟨by show (1025 : Int) ≤ (B.len : Nat); omega, by show ((B.len : Nat) : Int) ≤ 9223372036854775807; unfold maxLen at hle; omega⟩, trivial⟩ (numA_R rfl) (cc_arIn rfl ho) (cr := ccK0) ccK0_ok LpOk.none (xs := ccXs) (xs_one (xok_one hB rfl rfl) rfl) (.leaf (.bool (.lit true))) (n := 600) (by kernel_rfl) rfl rfl W (ext_one hB rfl)
      have e : SV.denL (envOf [(B.len : Int)] [] [] [] (apR [off]) [some B]) id [.xs 0] = [v] := by
        rw [hB.val]; rfl
      rw [e] at key
      exact key
end Go.Proofs.Ytmgfnejiienghaa
