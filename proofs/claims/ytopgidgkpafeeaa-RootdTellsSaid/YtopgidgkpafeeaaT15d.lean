/- Law 15: RootdTells. -/
import Derived.Test.YtopgidgkpafeeaaT02m
namespace Go.Proofs.Ytopgidgkpafeeaa
open Go Go.RowKit Ev
set_option linter.unusedVariables false
set_option linter.unusedSimpArgs false
set_option maxRecDepth 100000
set_option maxHeartbeats 0

theorem shown15 (w : World) : Calls Try.prog 26 #[] w fun e w' => e = .returned (.bool true) ∧ Below w.heap.size w w' :=
  closed_call (args := []) (v := .bool (.lit true)) (by kernel_rfl) rfl w
/-- a function by its tree, with any contracts -/
theorem law_val {ρ : Env} {rg ar : List (Int × Int)} (hin : AllIn ρ.i rg 0) (har : ArIn ρ ar) {cs : List Con} (hcs : ∀ c ∈ cs, c.holds Try.prog ρ) {cr : List (FuncId × List SV × SV)} (hcr : ∀ c ∈ cr, Known Try.prog ρ c) {lp : FuncId → List Nat → Nat → Option LoopSum} (hlp : LpOk ρ [] lp) {nz : Bool}
    (T : Tree) {n : Nat} {f : FuncId} {args : List SV} (hT : T.Ok Try.prog { pc := [], cr := cr ++ crS, rg := rg, ar := ar, ct := conCt rg ar cs, lp := lp, xs := [], nm := [], nz := nz } n f args) (hl : T.live ρ = true) {v : Value} (hv : T.val ρ = v) (w : World) (hx : ExtIn ρ w := by exact ExtIn.none fun _ => rfl) :
    Calls Try.prog f (SV.denL ρ id args).toArray w fun e w' => e = .returned v ∧ Below w.heap.size w w' := by
  have h := tree_soundX (P := Try.prog) mixed (ρ := ρ) T (X := { pc := [], cr := cr ++ crS, rg := rg, ar := ar, ct := conCt rg ar cs, lp := lp, xs := [], nm := [], nz := nz }) (knows_env rfl hin har (fun _ _ h => by cases h) (fun p hp => by cases hp))
    ⟨fun c hc φ w hx => (by rcases List.mem_append.1 hc with hc | hc; exact hcr c hc φ w hx; exact crS_ok c hc φ w hx), fun pc hpc f vs v h _ φ w _ => conCt_ok hin.get0 har hcs hpc h φ w, hlp⟩ hT hl w hx
  rw [hv] at h
  exact h
/-! the metric -/
noncomputable def metN (m : Int) : Nat → Int
  | 0 => 0
  | k + 1 => apN 1 (metN m k) m 0
def kk (x : Int) : Int := min (max x 0) 16
noncomputable def metP (x m D : Int) : Int := apN 1 (metN m (kk x).toNat) D 0
theorem kk1 (x : Int) : mnI (mxI x 0) 16 = kk x := by unfold kk; rw [mxI_max]; unfold mnI; split <;> omega
theorem kk2 (x : Int) : mxI (mnI x 16) 0 = kk x := by unfold kk; rw [mxI_max]; unfold mnI; split <;> omega
theorem met_in (x m D : Int) : -9223372036854775807 ≤ metP x m D ∧ metP x m D ≤ 9223372036854775807 := sat_in _
theorem met_at {x : Int} (k : Nat) (h : kk x = k) (m D : Int) : metP x m D = apN 1 (metN m k) D 0 := by unfold metP; rw [h]; rfl
theorem met_chain (x m D : Int) : (if (0 : Int) < kk x then (if (1 : Int) < kk x then (if (2 : Int) < kk x then (if (3 : Int) < kk x then (if (4 : Int) < kk x then (if (5 : Int) < kk x then (if (6 : Int) < kk x then (if (7 : Int) < kk x then (if (8 : Int) < kk x then (if (9 : Int) < kk x then (if (10 : Int) < kk x then (if (11 : Int) < kk x then (if (12 : Int) < kk x then (if (13 : Int) < kk x then (if (14 : Int) < kk x then (if (15 : Int) < kk x then (Value.int .i64 (apN 1 (apN 1 (apN 1 (apN 1 (apN 1 (apN 1 (apN 1 (apN 1 (apN 1 (apN 1 (apN 1 (apN 1 (apN 1 (apN 1 (apN 1 (apN 1 (apN 1 0 m 0) m 0) m 0) m 0) m 0) m 0) m 0) m 0) m 0) m 0) m 0) m 0) m 0) m 0) m 0) m 0) D 0)) else Value.int .i64 (apN 1 (apN 1 (apN 1 (apN 1 (apN 1 (apN 1 (apN 1 (apN 1 (apN 1 (apN 1 (apN 1 (apN 1 (apN 1 (apN 1 (apN 1 (apN 1 0 m 0) m 0) m 0) m 0) m 0) m 0) m 0) m 0) m 0) m 0) m 0) m 0) m 0) m 0) m 0) D 0)) else Value.int .i64 (apN 1 (apN 1 (apN 1 (apN 1 (apN 1 (apN 1 (apN 1 (apN 1 (apN 1 (apN 1 (apN 1 (apN 1 (apN 1 (apN 1 (apN 1 0 m 0) m 0) m 0) m 0) m 0) m 0) m 0) m 0) m 0) m 0) m 0) m 0) m 0) m 0) D 0)) else Value.int .i64 (apN 1 (apN 1 (apN 1 (apN 1 (apN 1 (apN 1 (apN 1 (apN 1 (apN 1 (apN 1 (apN 1 (apN 1 (apN 1 (apN 1 0 m 0) m 0) m 0) m 0) m 0) m 0) m 0) m 0) m 0) m 0) m 0) m 0) m 0) D 0)) else Value.int .i64 (apN 1 (apN 1 (apN 1 (apN 1 (apN 1 (apN 1 (apN 1 (apN 1 (apN 1 (apN 1 (apN 1 (apN 1 (apN 1 0 m 0) m 0) m 0) m 0) m 0) m 0) m 0) m 0) m 0) m 0) m 0) m 0) D 0)) else Value.int .i64 (apN 1 (apN 1 (apN 1 (apN 1 (apN 1 (apN 1 (apN 1 (apN 1 (apN 1 (apN 1 (apN 1 (apN 1 0 m 0) m 0) m 0) m 0) m 0) m 0) m 0) m 0) m 0) m 0) m 0) D 0)) else Value.int .i64 (apN 1 (apN 1 (apN 1 (apN 1 (apN 1 (apN 1 (apN 1 (apN 1 (apN 1 (apN 1 (apN 1 0 m 0) m 0) m 0) m 0) m 0) m 0) m 0) m 0) m 0) m 0) D 0)) else Value.int .i64 (apN 1 (apN 1 (apN 1 (apN 1 (apN 1 (apN 1 (apN 1 (apN 1 (apN 1 (apN 1 0 m 0) m 0) m 0) m 0) m 0) m 0) m 0) m 0) m 0) D 0)) else Value.int .i64 (apN 1 (apN 1 (apN 1 (apN 1 (apN 1 (apN 1 (apN 1 (apN 1 (apN 1 0 m 0) m 0) m 0) m 0) m 0) m 0) m 0) m 0) D 0)) else Value.int .i64 (apN 1 (apN 1 (apN 1 (apN 1 (apN 1 (apN 1 (apN 1 (apN 1 0 m 0) m 0) m 0) m 0) m 0) m 0) m 0) D 0)) else Value.int .i64 (apN 1 (apN 1 (apN 1 (apN 1 (apN 1 (apN 1 (apN 1 0 m 0) m 0) m 0) m 0) m 0) m 0) D 0)) else Value.int .i64 (apN 1 (apN 1 (apN 1 (apN 1 (apN 1 (apN 1 0 m 0) m 0) m 0) m 0) m 0) D 0)) else Value.int .i64 (apN 1 (apN 1 (apN 1 (apN 1 (apN 1 0 m 0) m 0) m 0) m 0) D 0)) else Value.int .i64 (apN 1 (apN 1 (apN 1 (apN 1 0 m 0) m 0) m 0) D 0)) else Value.int .i64 (apN 1 (apN 1 (apN 1 0 m 0) m 0) D 0)) else Value.int .i64 (apN 1 (apN 1 0 m 0) D 0)) else Value.int .i64 (apN 1 0 D 0)) = Value.int .i64 (metP x m D) := by
  have h0 : 0 ≤ kk x ∧ kk x ≤ 16 := by unfold kk; omega
  by_cases c0 : (0 : Int) < kk x
  · rw [if_pos c0]
    by_cases c1 : (1 : Int) < kk x
    · rw [if_pos c1]
      by_cases c2 : (2 : Int) < kk x
      · rw [if_pos c2]
        by_cases c3 : (3 : Int) < kk x
        · rw [if_pos c3]
          by_cases c4 : (4 : Int) < kk x
          · rw [if_pos c4]
            by_cases c5 : (5 : Int) < kk x
            · rw [if_pos c5]
              by_cases c6 : (6 : Int) < kk x
              · rw [if_pos c6]
                by_cases c7 : (7 : Int) < kk x
                · rw [if_pos c7]
                  by_cases c8 : (8 : Int) < kk x
                  · rw [if_pos c8]
                    by_cases c9 : (9 : Int) < kk x
                    · rw [if_pos c9]
                      by_cases c10 : (10 : Int) < kk x
                      · rw [if_pos c10]
                        by_cases c11 : (11 : Int) < kk x
                        · rw [if_pos c11]
                          by_cases c12 : (12 : Int) < kk x
                          · rw [if_pos c12]
                            by_cases c13 : (13 : Int) < kk x
                            · rw [if_pos c13]
                              by_cases c14 : (14 : Int) < kk x
                              · rw [if_pos c14]
                                by_cases c15 : (15 : Int) < kk x
                                · rw [if_pos c15]
                                  exact congrArg (Value.int .i64) (met_at 16 (by omega) m D).symm
                                · rw [if_neg c15]
                                  exact congrArg (Value.int .i64) (met_at 15 (by omega) m D).symm
                              · rw [if_neg c14]
                                exact congrArg (Value.int .i64) (met_at 14 (by omega) m D).symm
                            · rw [if_neg c13]
                              exact congrArg (Value.int .i64) (met_at 13 (by omega) m D).symm
                          · rw [if_neg c12]
                            exact congrArg (Value.int .i64) (met_at 12 (by omega) m D).symm
                        · rw [if_neg c11]
                          exact congrArg (Value.int .i64) (met_at 11 (by omega) m D).symm
                      · rw [if_neg c10]
                        exact congrArg (Value.int .i64) (met_at 10 (by omega) m D).symm
                    · rw [if_neg c9]
                      exact congrArg (Value.int .i64) (met_at 9 (by omega) m D).symm
                  · rw [if_neg c8]
                    exact congrArg (Value.int .i64) (met_at 8 (by omega) m D).symm
                · rw [if_neg c7]
                  exact congrArg (Value.int .i64) (met_at 7 (by omega) m D).symm
              · rw [if_neg c6]
                exact congrArg (Value.int .i64) (met_at 6 (by omega) m D).symm
            · rw [if_neg c5]
              exact congrArg (Value.int .i64) (met_at 5 (by omega) m D).symm
          · rw [if_neg c4]
            exact congrArg (Value.int .i64) (met_at 4 (by omega) m D).symm
        · rw [if_neg c3]
          exact congrArg (Value.int .i64) (met_at 3 (by omega) m D).symm
      · rw [if_neg c2]
        exact congrArg (Value.int .i64) (met_at 2 (by omega) m D).symm
    · rw [if_neg c1]
      exact congrArg (Value.int .i64) (met_at 1 (by omega) m D).symm
  · rw [if_neg c0]
    exact congrArg (Value.int .i64) (met_at 0 (by omega) m D).symm
noncomputable def mtD (p4 s3 s4 s6 s7 s8 s9 at0 : Int) : Int := apN 1 (apN 1 (apN 1 (apN 1 (apN 3 (mxI (apN 1 s3 s6 0) 21474836) (-1) 0) s4 0) s7 0) (apN 4 (mxI (apN 2 at0 s9 0) 0) p4 0) 0) s8 0
abbrev mtR : List (Int × Int) := [i64R, i64R, i64R, i64R, i64R, i64R, i64R, i64R, i64R, i64R, i64R, i64R, i64R, i64R, (0, 4294967295), i64R, i64R, i64R, i64R, i64R, i64R, i64R, (0, 255), i64R]
abbrev mtA : List SV := [.agg [.int .i64 (.var 0), .int .i64 (.var 1), .int .i64 (.var 2), .int .i64 (.var 3), .int .i64 (.var 4), .int .i64 (.var 5), .int .i64 (.var 6), .int .i64 (.var 7), .int .i64 (.var 8), .int .i64 (.var 9), .int .i64 (.var 10), .int .i64 (.var 11)], .agg [.int .i64 (.var 12), .int .i64 (.var 13), .int .u32 (.var 14), .int .i64 (.var 15), .int .i64 (.var 16), .int .i64 (.var 17), .int .i64 (.var 18), .int .i64 (.var 19), .int .i64 (.var 20), .int .i64 (.var 21), .int .u8 (.var 22)], .int .i64 (.var 23)]
def met1T : Tree :=
(.node (.cmp .lss (.lit 0) (.mn (.mx (.var 13) (.lit 0)) (.lit 16)))
 (.node (.cmp .lss (.lit 1) (.mn (.mx (.var 13) (.lit 0)) (.lit 16)))
 (.node (.cmp .lss (.lit 2) (.mn (.mx (.var 13) (.lit 0)) (.lit 16)))
 (.node (.cmp .lss (.lit 3) (.mn (.mx (.var 13) (.lit 0)) (.lit 16)))
 (.node (.cmp .lss (.lit 4) (.mn (.mx (.var 13) (.lit 0)) (.lit 16)))
 (.node (.cmp .lss (.lit 5) (.mn (.mx (.var 13) (.lit 0)) (.lit 16)))
 (.node (.cmp .lss (.lit 6) (.mn (.mx (.var 13) (.lit 0)) (.lit 16)))
 (.node (.cmp .lss (.lit 7) (.mn (.mx (.var 13) (.lit 0)) (.lit 16)))
 (.node (.cmp .lss (.lit 8) (.mn (.mx (.var 13) (.lit 0)) (.lit 16)))
 (.node (.cmp .lss (.lit 9) (.mn (.mx (.var 13) (.lit 0)) (.lit 16)))
 (.node (.cmp .lss (.lit 10) (.mn (.mx (.var 13) (.lit 0)) (.lit 16)))
 (.node (.cmp .lss (.lit 11) (.mn (.mx (.var 13) (.lit 0)) (.lit 16)))
 (.node (.cmp .lss (.lit 12) (.mn (.mx (.var 13) (.lit 0)) (.lit 16)))
 (.node (.cmp .lss (.lit 13) (.mn (.mx (.var 13) (.lit 0)) (.lit 16)))
 (.node (.cmp .lss (.lit 14) (.mn (.mx (.var 13) (.lit 0)) (.lit 16)))
 (.node (.cmp .lss (.lit 15) (.mn (.mx (.var 13) (.lit 0)) (.lit 16)))
 (.leaf (.int .i64 (.ap 1 (.ap 1 (.ap 1 (.ap 1 (.ap 1 (.ap 1 (.ap 1 (.ap 1 (.ap 1 (.ap 1 (.ap 1 (.ap 1 (.ap 1 (.ap 1 (.ap 1 (.ap 1 (.ap 1 (.lit 0) (.var 5) (.lit 0)) (.var 5) (.lit 0)) (.var 5) (.lit 0)) (.var 5) (.lit 0)) (.var 5) (.lit 0)) (.var 5) (.lit 0)) (.var 5) (.lit 0)) (.var 5) (.lit 0)) (.var 5) (.lit 0)) (.var 5) (.lit 0)) (.var 5) (.lit 0)) (.var 5) (.lit 0)) (.var 5) (.lit 0)) (.var 5) (.lit 0)) (.var 5) (.lit 0)) (.var 5) (.lit 0)) (.ap 1 (.ap 1 (.ap 1 (.ap 1 (.ap 3 (.mx (.ap 1 (.var 15) (.var 18) (.lit 0)) (.lit 21474836)) (.lit (-1)) (.lit 0)) (.var 16) (.lit 0)) (.var 19) (.lit 0)) (.ap 4 (.mx (.ap 2 (.var 23) (.var 21) (.lit 0)) (.lit 0)) (.var 4) (.lit 0)) (.lit 0)) (.var 20) (.lit 0)) (.lit 0))))
 (.leaf (.int .i64 (.ap 1 (.ap 1 (.ap 1 (.ap 1 (.ap 1 (.ap 1 (.ap 1 (.ap 1 (.ap 1 (.ap 1 (.ap 1 (.ap 1 (.ap 1 (.ap 1 (.ap 1 (.ap 1 (.lit 0) (.var 5) (.lit 0)) (.var 5) (.lit 0)) (.var 5) (.lit 0)) (.var 5) (.lit 0)) (.var 5) (.lit 0)) (.var 5) (.lit 0)) (.var 5) (.lit 0)) (.var 5) (.lit 0)) (.var 5) (.lit 0)) (.var 5) (.lit 0)) (.var 5) (.lit 0)) (.var 5) (.lit 0)) (.var 5) (.lit 0)) (.var 5) (.lit 0)) (.var 5) (.lit 0)) (.ap 1 (.ap 1 (.ap 1 (.ap 1 (.ap 3 (.mx (.ap 1 (.var 15) (.var 18) (.lit 0)) (.lit 21474836)) (.lit (-1)) (.lit 0)) (.var 16) (.lit 0)) (.var 19) (.lit 0)) (.ap 4 (.mx (.ap 2 (.var 23) (.var 21) (.lit 0)) (.lit 0)) (.var 4) (.lit 0)) (.lit 0)) (.var 20) (.lit 0)) (.lit 0)))))
 (.leaf (.int .i64 (.ap 1 (.ap 1 (.ap 1 (.ap 1 (.ap 1 (.ap 1 (.ap 1 (.ap 1 (.ap 1 (.ap 1 (.ap 1 (.ap 1 (.ap 1 (.ap 1 (.ap 1 (.lit 0) (.var 5) (.lit 0)) (.var 5) (.lit 0)) (.var 5) (.lit 0)) (.var 5) (.lit 0)) (.var 5) (.lit 0)) (.var 5) (.lit 0)) (.var 5) (.lit 0)) (.var 5) (.lit 0)) (.var 5) (.lit 0)) (.var 5) (.lit 0)) (.var 5) (.lit 0)) (.var 5) (.lit 0)) (.var 5) (.lit 0)) (.var 5) (.lit 0)) (.ap 1 (.ap 1 (.ap 1 (.ap 1 (.ap 3 (.mx (.ap 1 (.var 15) (.var 18) (.lit 0)) (.lit 21474836)) (.lit (-1)) (.lit 0)) (.var 16) (.lit 0)) (.var 19) (.lit 0)) (.ap 4 (.mx (.ap 2 (.var 23) (.var 21) (.lit 0)) (.lit 0)) (.var 4) (.lit 0)) (.lit 0)) (.var 20) (.lit 0)) (.lit 0)))))
 (.leaf (.int .i64 (.ap 1 (.ap 1 (.ap 1 (.ap 1 (.ap 1 (.ap 1 (.ap 1 (.ap 1 (.ap 1 (.ap 1 (.ap 1 (.ap 1 (.ap 1 (.ap 1 (.lit 0) (.var 5) (.lit 0)) (.var 5) (.lit 0)) (.var 5) (.lit 0)) (.var 5) (.lit 0)) (.var 5) (.lit 0)) (.var 5) (.lit 0)) (.var 5) (.lit 0)) (.var 5) (.lit 0)) (.var 5) (.lit 0)) (.var 5) (.lit 0)) (.var 5) (.lit 0)) (.var 5) (.lit 0)) (.var 5) (.lit 0)) (.ap 1 (.ap 1 (.ap 1 (.ap 1 (.ap 3 (.mx (.ap 1 (.var 15) (.var 18) (.lit 0)) (.lit 21474836)) (.lit (-1)) (.lit 0)) (.var 16) (.lit 0)) (.var 19) (.lit 0)) (.ap 4 (.mx (.ap 2 (.var 23) (.var 21) (.lit 0)) (.lit 0)) (.var 4) (.lit 0)) (.lit 0)) (.var 20) (.lit 0)) (.lit 0)))))
 (.leaf (.int .i64 (.ap 1 (.ap 1 (.ap 1 (.ap 1 (.ap 1 (.ap 1 (.ap 1 (.ap 1 (.ap 1 (.ap 1 (.ap 1 (.ap 1 (.ap 1 (.lit 0) (.var 5) (.lit 0)) (.var 5) (.lit 0)) (.var 5) (.lit 0)) (.var 5) (.lit 0)) (.var 5) (.lit 0)) (.var 5) (.lit 0)) (.var 5) (.lit 0)) (.var 5) (.lit 0)) (.var 5) (.lit 0)) (.var 5) (.lit 0)) (.var 5) (.lit 0)) (.var 5) (.lit 0)) (.ap 1 (.ap 1 (.ap 1 (.ap 1 (.ap 3 (.mx (.ap 1 (.var 15) (.var 18) (.lit 0)) (.lit 21474836)) (.lit (-1)) (.lit 0)) (.var 16) (.lit 0)) (.var 19) (.lit 0)) (.ap 4 (.mx (.ap 2 (.var 23) (.var 21) (.lit 0)) (.lit 0)) (.var 4) (.lit 0)) (.lit 0)) (.var 20) (.lit 0)) (.lit 0)))))
 (.leaf (.int .i64 (.ap 1 (.ap 1 (.ap 1 (.ap 1 (.ap 1 (.ap 1 (.ap 1 (.ap 1 (.ap 1 (.ap 1 (.ap 1 (.ap 1 (.lit 0) (.var 5) (.lit 0)) (.var 5) (.lit 0)) (.var 5) (.lit 0)) (.var 5) (.lit 0)) (.var 5) (.lit 0)) (.var 5) (.lit 0)) (.var 5) (.lit 0)) (.var 5) (.lit 0)) (.var 5) (.lit 0)) (.var 5) (.lit 0)) (.var 5) (.lit 0)) (.ap 1 (.ap 1 (.ap 1 (.ap 1 (.ap 3 (.mx (.ap 1 (.var 15) (.var 18) (.lit 0)) (.lit 21474836)) (.lit (-1)) (.lit 0)) (.var 16) (.lit 0)) (.var 19) (.lit 0)) (.ap 4 (.mx (.ap 2 (.var 23) (.var 21) (.lit 0)) (.lit 0)) (.var 4) (.lit 0)) (.lit 0)) (.var 20) (.lit 0)) (.lit 0)))))
 (.leaf (.int .i64 (.ap 1 (.ap 1 (.ap 1 (.ap 1 (.ap 1 (.ap 1 (.ap 1 (.ap 1 (.ap 1 (.ap 1 (.ap 1 (.lit 0) (.var 5) (.lit 0)) (.var 5) (.lit 0)) (.var 5) (.lit 0)) (.var 5) (.lit 0)) (.var 5) (.lit 0)) (.var 5) (.lit 0)) (.var 5) (.lit 0)) (.var 5) (.lit 0)) (.var 5) (.lit 0)) (.var 5) (.lit 0)) (.ap 1 (.ap 1 (.ap 1 (.ap 1 (.ap 3 (.mx (.ap 1 (.var 15) (.var 18) (.lit 0)) (.lit 21474836)) (.lit (-1)) (.lit 0)) (.var 16) (.lit 0)) (.var 19) (.lit 0)) (.ap 4 (.mx (.ap 2 (.var 23) (.var 21) (.lit 0)) (.lit 0)) (.var 4) (.lit 0)) (.lit 0)) (.var 20) (.lit 0)) (.lit 0)))))
 (.leaf (.int .i64 (.ap 1 (.ap 1 (.ap 1 (.ap 1 (.ap 1 (.ap 1 (.ap 1 (.ap 1 (.ap 1 (.ap 1 (.lit 0) (.var 5) (.lit 0)) (.var 5) (.lit 0)) (.var 5) (.lit 0)) (.var 5) (.lit 0)) (.var 5) (.lit 0)) (.var 5) (.lit 0)) (.var 5) (.lit 0)) (.var 5) (.lit 0)) (.var 5) (.lit 0)) (.ap 1 (.ap 1 (.ap 1 (.ap 1 (.ap 3 (.mx (.ap 1 (.var 15) (.var 18) (.lit 0)) (.lit 21474836)) (.lit (-1)) (.lit 0)) (.var 16) (.lit 0)) (.var 19) (.lit 0)) (.ap 4 (.mx (.ap 2 (.var 23) (.var 21) (.lit 0)) (.lit 0)) (.var 4) (.lit 0)) (.lit 0)) (.var 20) (.lit 0)) (.lit 0)))))
 (.leaf (.int .i64 (.ap 1 (.ap 1 (.ap 1 (.ap 1 (.ap 1 (.ap 1 (.ap 1 (.ap 1 (.ap 1 (.lit 0) (.var 5) (.lit 0)) (.var 5) (.lit 0)) (.var 5) (.lit 0)) (.var 5) (.lit 0)) (.var 5) (.lit 0)) (.var 5) (.lit 0)) (.var 5) (.lit 0)) (.var 5) (.lit 0)) (.ap 1 (.ap 1 (.ap 1 (.ap 1 (.ap 3 (.mx (.ap 1 (.var 15) (.var 18) (.lit 0)) (.lit 21474836)) (.lit (-1)) (.lit 0)) (.var 16) (.lit 0)) (.var 19) (.lit 0)) (.ap 4 (.mx (.ap 2 (.var 23) (.var 21) (.lit 0)) (.lit 0)) (.var 4) (.lit 0)) (.lit 0)) (.var 20) (.lit 0)) (.lit 0)))))
 (.leaf (.int .i64 (.ap 1 (.ap 1 (.ap 1 (.ap 1 (.ap 1 (.ap 1 (.ap 1 (.ap 1 (.lit 0) (.var 5) (.lit 0)) (.var 5) (.lit 0)) (.var 5) (.lit 0)) (.var 5) (.lit 0)) (.var 5) (.lit 0)) (.var 5) (.lit 0)) (.var 5) (.lit 0)) (.ap 1 (.ap 1 (.ap 1 (.ap 1 (.ap 3 (.mx (.ap 1 (.var 15) (.var 18) (.lit 0)) (.lit 21474836)) (.lit (-1)) (.lit 0)) (.var 16) (.lit 0)) (.var 19) (.lit 0)) (.ap 4 (.mx (.ap 2 (.var 23) (.var 21) (.lit 0)) (.lit 0)) (.var 4) (.lit 0)) (.lit 0)) (.var 20) (.lit 0)) (.lit 0)))))
 (.leaf (.int .i64 (.ap 1 (.ap 1 (.ap 1 (.ap 1 (.ap 1 (.ap 1 (.ap 1 (.lit 0) (.var 5) (.lit 0)) (.var 5) (.lit 0)) (.var 5) (.lit 0)) (.var 5) (.lit 0)) (.var 5) (.lit 0)) (.var 5) (.lit 0)) (.ap 1 (.ap 1 (.ap 1 (.ap 1 (.ap 3 (.mx (.ap 1 (.var 15) (.var 18) (.lit 0)) (.lit 21474836)) (.lit (-1)) (.lit 0)) (.var 16) (.lit 0)) (.var 19) (.lit 0)) (.ap 4 (.mx (.ap 2 (.var 23) (.var 21) (.lit 0)) (.lit 0)) (.var 4) (.lit 0)) (.lit 0)) (.var 20) (.lit 0)) (.lit 0)))))
 (.leaf (.int .i64 (.ap 1 (.ap 1 (.ap 1 (.ap 1 (.ap 1 (.ap 1 (.lit 0) (.var 5) (.lit 0)) (.var 5) (.lit 0)) (.var 5) (.lit 0)) (.var 5) (.lit 0)) (.var 5) (.lit 0)) (.ap 1 (.ap 1 (.ap 1 (.ap 1 (.ap 3 (.mx (.ap 1 (.var 15) (.var 18) (.lit 0)) (.lit 21474836)) (.lit (-1)) (.lit 0)) (.var 16) (.lit 0)) (.var 19) (.lit 0)) (.ap 4 (.mx (.ap 2 (.var 23) (.var 21) (.lit 0)) (.lit 0)) (.var 4) (.lit 0)) (.lit 0)) (.var 20) (.lit 0)) (.lit 0)))))
 (.leaf (.int .i64 (.ap 1 (.ap 1 (.ap 1 (.ap 1 (.ap 1 (.lit 0) (.var 5) (.lit 0)) (.var 5) (.lit 0)) (.var 5) (.lit 0)) (.var 5) (.lit 0)) (.ap 1 (.ap 1 (.ap 1 (.ap 1 (.ap 3 (.mx (.ap 1 (.var 15) (.var 18) (.lit 0)) (.lit 21474836)) (.lit (-1)) (.lit 0)) (.var 16) (.lit 0)) (.var 19) (.lit 0)) (.ap 4 (.mx (.ap 2 (.var 23) (.var 21) (.lit 0)) (.lit 0)) (.var 4) (.lit 0)) (.lit 0)) (.var 20) (.lit 0)) (.lit 0)))))
 (.leaf (.int .i64 (.ap 1 (.ap 1 (.ap 1 (.ap 1 (.lit 0) (.var 5) (.lit 0)) (.var 5) (.lit 0)) (.var 5) (.lit 0)) (.ap 1 (.ap 1 (.ap 1 (.ap 1 (.ap 3 (.mx (.ap 1 (.var 15) (.var 18) (.lit 0)) (.lit 21474836)) (.lit (-1)) (.lit 0)) (.var 16) (.lit 0)) (.var 19) (.lit 0)) (.ap 4 (.mx (.ap 2 (.var 23) (.var 21) (.lit 0)) (.lit 0)) (.var 4) (.lit 0)) (.lit 0)) (.var 20) (.lit 0)) (.lit 0)))))
 (.leaf (.int .i64 (.ap 1 (.ap 1 (.ap 1 (.lit 0) (.var 5) (.lit 0)) (.var 5) (.lit 0)) (.ap 1 (.ap 1 (.ap 1 (.ap 1 (.ap 3 (.mx (.ap 1 (.var 15) (.var 18) (.lit 0)) (.lit 21474836)) (.lit (-1)) (.lit 0)) (.var 16) (.lit 0)) (.var 19) (.lit 0)) (.ap 4 (.mx (.ap 2 (.var 23) (.var 21) (.lit 0)) (.lit 0)) (.var 4) (.lit 0)) (.lit 0)) (.var 20) (.lit 0)) (.lit 0)))))
 (.leaf (.int .i64 (.ap 1 (.ap 1 (.lit 0) (.var 5) (.lit 0)) (.ap 1 (.ap 1 (.ap 1 (.ap 1 (.ap 3 (.mx (.ap 1 (.var 15) (.var 18) (.lit 0)) (.lit 21474836)) (.lit (-1)) (.lit 0)) (.var 16) (.lit 0)) (.var 19) (.lit 0)) (.ap 4 (.mx (.ap 2 (.var 23) (.var 21) (.lit 0)) (.lit 0)) (.var 4) (.lit 0)) (.lit 0)) (.var 20) (.lit 0)) (.lit 0)))))
 (.leaf (.int .i64 (.ap 1 (.lit 0) (.ap 1 (.ap 1 (.ap 1 (.ap 1 (.ap 3 (.mx (.ap 1 (.var 15) (.var 18) (.lit 0)) (.lit 21474836)) (.lit (-1)) (.lit 0)) (.var 16) (.lit 0)) (.var 19) (.lit 0)) (.ap 4 (.mx (.ap 2 (.var 23) (.var 21) (.lit 0)) (.lit 0)) (.var 4) (.lit 0)) (.lit 0)) (.var 20) (.lit 0)) (.lit 0)))))
theorem met1_any (p0 p1 p2 p3 p4 p5 p6 p7 p8 p9 p10 p11 s0 s1 s2 s3 s4 s5 s6 s7 s8 s9 s10 at0 : Int) (k0 : InI p0) (k1 : InI p1) (k2 : InI p2) (k3 : InI p3) (k4 : InI p4) (k5 : InI p5) (k6 : InI p6) (k7 : InI p7) (k8 : InI p8) (k9 : InI p9) (k10 : InI p10) (k11 : InI p11) (k12 : InI s0) (k13 : InI s1) (k14 : 0 ≤ s2 ∧ s2 ≤ 4294967295) (k15 : InI s3) (k16 : InI s4) (k17 : InI s5) (k18 : InI s6) (k19 : InI s7) (k20 : InI s8) (k21 : InI s9) (k22 : 0 ≤ s10 ∧ s10 ≤ 255) (k23 : InI at0) (w : World) : Calls Try.prog 33 #[.agg #[.int .i64 p0, .int .i64 p1, .int .i64 p2, .int .i64 p3, .int .i64 p4, .int .i64 p5, .int .i64 p6, .int .i64 p7, .int .i64 p8, .int .i64 p9, .int .i64 p10, .int .i64 p11], .agg #[.int .i64 s0, .int .i64 s1, .int .u32 s2, .int .i64 s3, .int .i64 s4, .int .i64 s5, .int .i64 s6, .int .i64 s7, .int .i64 s8, .int .i64 s9, .int .u8 s10], .int .i64 at0] w fun e w' => e = .returned (.int .i64 (metP s1 p5 (mtD p4 s3 s4 s6 s7 s8 s9 at0))) ∧ Below w.heap.size w w' :=
  law_val (ρ := envOf [p0, p1, p2, p3, p4, p5, p6, p7, p8, p9, p10, p11, s0, s1, s2, s3, s4, s5, s6, s7, s8, s9, s10, at0] (ap := apN)) (rg := mtR) (ar := arN) (args := mtA) ⟨k0, k1, k2, k3, k4, k5, k6, k7, k8, k9, k10, k11, k12, k13, k14, k15, k16, k17, k18, k19, k20, k21, k22, k23, trivial⟩ (arIn_N rfl) (consS_ok (numA_N rfl)) (cr := []) (fun c hc => by cases hc) LpOk.none (nz := true) met1T (n := 1000) (Tree.ok_of_check (by kernel_rfl)) (Tree.whole_live (by kernel_rfl)) (by
    simp only [met1T, Tree.val, BE.den, cmpI, SV.den, IE.den, Bool.cond_decide, List.getD_cons_zero, List.getD_cons_succ, kk1]
    exact met_chain s1 p5 _) w
def met2T : Tree :=
(.node (.cmp .lss (.lit 0) (.mx (.mn (.var 13) (.lit 16)) (.lit 0)))
 (.node (.cmp .lss (.lit 1) (.mx (.mn (.var 13) (.lit 16)) (.lit 0)))
 (.node (.cmp .lss (.lit 2) (.mx (.mn (.var 13) (.lit 16)) (.lit 0)))
 (.node (.cmp .lss (.lit 3) (.mx (.mn (.var 13) (.lit 16)) (.lit 0)))
 (.node (.cmp .lss (.lit 4) (.mx (.mn (.var 13) (.lit 16)) (.lit 0)))
 (.node (.cmp .lss (.lit 5) (.mx (.mn (.var 13) (.lit 16)) (.lit 0)))
 (.node (.cmp .lss (.lit 6) (.mx (.mn (.var 13) (.lit 16)) (.lit 0)))
 (.node (.cmp .lss (.lit 7) (.mx (.mn (.var 13) (.lit 16)) (.lit 0)))
 (.node (.cmp .lss (.lit 8) (.mx (.mn (.var 13) (.lit 16)) (.lit 0)))
 (.node (.cmp .lss (.lit 9) (.mx (.mn (.var 13) (.lit 16)) (.lit 0)))
 (.node (.cmp .lss (.lit 10) (.mx (.mn (.var 13) (.lit 16)) (.lit 0)))
 (.node (.cmp .lss (.lit 11) (.mx (.mn (.var 13) (.lit 16)) (.lit 0)))
 (.node (.cmp .lss (.lit 12) (.mx (.mn (.var 13) (.lit 16)) (.lit 0)))
 (.node (.cmp .lss (.lit 13) (.mx (.mn (.var 13) (.lit 16)) (.lit 0)))
 (.node (.cmp .lss (.lit 14) (.mx (.mn (.var 13) (.lit 16)) (.lit 0)))
 (.node (.cmp .lss (.lit 15) (.mx (.mn (.var 13) (.lit 16)) (.lit 0)))
 (.leaf (.int .i64 (.ap 1 (.ap 1 (.ap 1 (.ap 1 (.ap 1 (.ap 1 (.ap 1 (.ap 1 (.ap 1 (.ap 1 (.ap 1 (.ap 1 (.ap 1 (.ap 1 (.ap 1 (.ap 1 (.ap 1 (.lit 0) (.var 5) (.lit 0)) (.var 5) (.lit 0)) (.var 5) (.lit 0)) (.var 5) (.lit 0)) (.var 5) (.lit 0)) (.var 5) (.lit 0)) (.var 5) (.lit 0)) (.var 5) (.lit 0)) (.var 5) (.lit 0)) (.var 5) (.lit 0)) (.var 5) (.lit 0)) (.var 5) (.lit 0)) (.var 5) (.lit 0)) (.var 5) (.lit 0)) (.var 5) (.lit 0)) (.var 5) (.lit 0)) (.ap 1 (.ap 1 (.ap 1 (.ap 1 (.ap 3 (.mx (.ap 1 (.var 15) (.var 18) (.lit 0)) (.lit 21474836)) (.lit (-1)) (.lit 0)) (.var 16) (.lit 0)) (.var 19) (.lit 0)) (.ap 4 (.mx (.ap 2 (.var 23) (.var 21) (.lit 0)) (.lit 0)) (.var 4) (.lit 0)) (.lit 0)) (.var 20) (.lit 0)) (.lit 0))))
 (.leaf (.int .i64 (.ap 1 (.ap 1 (.ap 1 (.ap 1 (.ap 1 (.ap 1 (.ap 1 (.ap 1 (.ap 1 (.ap 1 (.ap 1 (.ap 1 (.ap 1 (.ap 1 (.ap 1 (.ap 1 (.lit 0) (.var 5) (.lit 0)) (.var 5) (.lit 0)) (.var 5) (.lit 0)) (.var 5) (.lit 0)) (.var 5) (.lit 0)) (.var 5) (.lit 0)) (.var 5) (.lit 0)) (.var 5) (.lit 0)) (.var 5) (.lit 0)) (.var 5) (.lit 0)) (.var 5) (.lit 0)) (.var 5) (.lit 0)) (.var 5) (.lit 0)) (.var 5) (.lit 0)) (.var 5) (.lit 0)) (.ap 1 (.ap 1 (.ap 1 (.ap 1 (.ap 3 (.mx (.ap 1 (.var 15) (.var 18) (.lit 0)) (.lit 21474836)) (.lit (-1)) (.lit 0)) (.var 16) (.lit 0)) (.var 19) (.lit 0)) (.ap 4 (.mx (.ap 2 (.var 23) (.var 21) (.lit 0)) (.lit 0)) (.var 4) (.lit 0)) (.lit 0)) (.var 20) (.lit 0)) (.lit 0)))))
 (.leaf (.int .i64 (.ap 1 (.ap 1 (.ap 1 (.ap 1 (.ap 1 (.ap 1 (.ap 1 (.ap 1 (.ap 1 (.ap 1 (.ap 1 (.ap 1 (.ap 1 (.ap 1 (.ap 1 (.lit 0) (.var 5) (.lit 0)) (.var 5) (.lit 0)) (.var 5) (.lit 0)) (.var 5) (.lit 0)) (.var 5) (.lit 0)) (.var 5) (.lit 0)) (.var 5) (.lit 0)) (.var 5) (.lit 0)) (.var 5) (.lit 0)) (.var 5) (.lit 0)) (.var 5) (.lit 0)) (.var 5) (.lit 0)) (.var 5) (.lit 0)) (.var 5) (.lit 0)) (.ap 1 (.ap 1 (.ap 1 (.ap 1 (.ap 3 (.mx (.ap 1 (.var 15) (.var 18) (.lit 0)) (.lit 21474836)) (.lit (-1)) (.lit 0)) (.var 16) (.lit 0)) (.var 19) (.lit 0)) (.ap 4 (.mx (.ap 2 (.var 23) (.var 21) (.lit 0)) (.lit 0)) (.var 4) (.lit 0)) (.lit 0)) (.var 20) (.lit 0)) (.lit 0)))))
 (.leaf (.int .i64 (.ap 1 (.ap 1 (.ap 1 (.ap 1 (.ap 1 (.ap 1 (.ap 1 (.ap 1 (.ap 1 (.ap 1 (.ap 1 (.ap 1 (.ap 1 (.ap 1 (.lit 0) (.var 5) (.lit 0)) (.var 5) (.lit 0)) (.var 5) (.lit 0)) (.var 5) (.lit 0)) (.var 5) (.lit 0)) (.var 5) (.lit 0)) (.var 5) (.lit 0)) (.var 5) (.lit 0)) (.var 5) (.lit 0)) (.var 5) (.lit 0)) (.var 5) (.lit 0)) (.var 5) (.lit 0)) (.var 5) (.lit 0)) (.ap 1 (.ap 1 (.ap 1 (.ap 1 (.ap 3 (.mx (.ap 1 (.var 15) (.var 18) (.lit 0)) (.lit 21474836)) (.lit (-1)) (.lit 0)) (.var 16) (.lit 0)) (.var 19) (.lit 0)) (.ap 4 (.mx (.ap 2 (.var 23) (.var 21) (.lit 0)) (.lit 0)) (.var 4) (.lit 0)) (.lit 0)) (.var 20) (.lit 0)) (.lit 0)))))
 (.leaf (.int .i64 (.ap 1 (.ap 1 (.ap 1 (.ap 1 (.ap 1 (.ap 1 (.ap 1 (.ap 1 (.ap 1 (.ap 1 (.ap 1 (.ap 1 (.ap 1 (.lit 0) (.var 5) (.lit 0)) (.var 5) (.lit 0)) (.var 5) (.lit 0)) (.var 5) (.lit 0)) (.var 5) (.lit 0)) (.var 5) (.lit 0)) (.var 5) (.lit 0)) (.var 5) (.lit 0)) (.var 5) (.lit 0)) (.var 5) (.lit 0)) (.var 5) (.lit 0)) (.var 5) (.lit 0)) (.ap 1 (.ap 1 (.ap 1 (.ap 1 (.ap 3 (.mx (.ap 1 (.var 15) (.var 18) (.lit 0)) (.lit 21474836)) (.lit (-1)) (.lit 0)) (.var 16) (.lit 0)) (.var 19) (.lit 0)) (.ap 4 (.mx (.ap 2 (.var 23) (.var 21) (.lit 0)) (.lit 0)) (.var 4) (.lit 0)) (.lit 0)) (.var 20) (.lit 0)) (.lit 0)))))
 (.leaf (.int .i64 (.ap 1 (.ap 1 (.ap 1 (.ap 1 (.ap 1 (.ap 1 (.ap 1 (.ap 1 (.ap 1 (.ap 1 (.ap 1 (.ap 1 (.lit 0) (.var 5) (.lit 0)) (.var 5) (.lit 0)) (.var 5) (.lit 0)) (.var 5) (.lit 0)) (.var 5) (.lit 0)) (.var 5) (.lit 0)) (.var 5) (.lit 0)) (.var 5) (.lit 0)) (.var 5) (.lit 0)) (.var 5) (.lit 0)) (.var 5) (.lit 0)) (.ap 1 (.ap 1 (.ap 1 (.ap 1 (.ap 3 (.mx (.ap 1 (.var 15) (.var 18) (.lit 0)) (.lit 21474836)) (.lit (-1)) (.lit 0)) (.var 16) (.lit 0)) (.var 19) (.lit 0)) (.ap 4 (.mx (.ap 2 (.var 23) (.var 21) (.lit 0)) (.lit 0)) (.var 4) (.lit 0)) (.lit 0)) (.var 20) (.lit 0)) (.lit 0)))))
 (.leaf (.int .i64 (.ap 1 (.ap 1 (.ap 1 (.ap 1 (.ap 1 (.ap 1 (.ap 1 (.ap 1 (.ap 1 (.ap 1 (.ap 1 (.lit 0) (.var 5) (.lit 0)) (.var 5) (.lit 0)) (.var 5) (.lit 0)) (.var 5) (.lit 0)) (.var 5) (.lit 0)) (.var 5) (.lit 0)) (.var 5) (.lit 0)) (.var 5) (.lit 0)) (.var 5) (.lit 0)) (.var 5) (.lit 0)) (.ap 1 (.ap 1 (.ap 1 (.ap 1 (.ap 3 (.mx (.ap 1 (.var 15) (.var 18) (.lit 0)) (.lit 21474836)) (.lit (-1)) (.lit 0)) (.var 16) (.lit 0)) (.var 19) (.lit 0)) (.ap 4 (.mx (.ap 2 (.var 23) (.var 21) (.lit 0)) (.lit 0)) (.var 4) (.lit 0)) (.lit 0)) (.var 20) (.lit 0)) (.lit 0)))))
 (.leaf (.int .i64 (.ap 1 (.ap 1 (.ap 1 (.ap 1 (.ap 1 (.ap 1 (.ap 1 (.ap 1 (.ap 1 (.ap 1 (.lit 0) (.var 5) (.lit 0)) (.var 5) (.lit 0)) (.var 5) (.lit 0)) (.var 5) (.lit 0)) (.var 5) (.lit 0)) (.var 5) (.lit 0)) (.var 5) (.lit 0)) (.var 5) (.lit 0)) (.var 5) (.lit 0)) (.ap 1 (.ap 1 (.ap 1 (.ap 1 (.ap 3 (.mx (.ap 1 (.var 15) (.var 18) (.lit 0)) (.lit 21474836)) (.lit (-1)) (.lit 0)) (.var 16) (.lit 0)) (.var 19) (.lit 0)) (.ap 4 (.mx (.ap 2 (.var 23) (.var 21) (.lit 0)) (.lit 0)) (.var 4) (.lit 0)) (.lit 0)) (.var 20) (.lit 0)) (.lit 0)))))
 (.leaf (.int .i64 (.ap 1 (.ap 1 (.ap 1 (.ap 1 (.ap 1 (.ap 1 (.ap 1 (.ap 1 (.ap 1 (.lit 0) (.var 5) (.lit 0)) (.var 5) (.lit 0)) (.var 5) (.lit 0)) (.var 5) (.lit 0)) (.var 5) (.lit 0)) (.var 5) (.lit 0)) (.var 5) (.lit 0)) (.var 5) (.lit 0)) (.ap 1 (.ap 1 (.ap 1 (.ap 1 (.ap 3 (.mx (.ap 1 (.var 15) (.var 18) (.lit 0)) (.lit 21474836)) (.lit (-1)) (.lit 0)) (.var 16) (.lit 0)) (.var 19) (.lit 0)) (.ap 4 (.mx (.ap 2 (.var 23) (.var 21) (.lit 0)) (.lit 0)) (.var 4) (.lit 0)) (.lit 0)) (.var 20) (.lit 0)) (.lit 0)))))
 (.leaf (.int .i64 (.ap 1 (.ap 1 (.ap 1 (.ap 1 (.ap 1 (.ap 1 (.ap 1 (.ap 1 (.lit 0) (.var 5) (.lit 0)) (.var 5) (.lit 0)) (.var 5) (.lit 0)) (.var 5) (.lit 0)) (.var 5) (.lit 0)) (.var 5) (.lit 0)) (.var 5) (.lit 0)) (.ap 1 (.ap 1 (.ap 1 (.ap 1 (.ap 3 (.mx (.ap 1 (.var 15) (.var 18) (.lit 0)) (.lit 21474836)) (.lit (-1)) (.lit 0)) (.var 16) (.lit 0)) (.var 19) (.lit 0)) (.ap 4 (.mx (.ap 2 (.var 23) (.var 21) (.lit 0)) (.lit 0)) (.var 4) (.lit 0)) (.lit 0)) (.var 20) (.lit 0)) (.lit 0)))))
 (.leaf (.int .i64 (.ap 1 (.ap 1 (.ap 1 (.ap 1 (.ap 1 (.ap 1 (.ap 1 (.lit 0) (.var 5) (.lit 0)) (.var 5) (.lit 0)) (.var 5) (.lit 0)) (.var 5) (.lit 0)) (.var 5) (.lit 0)) (.var 5) (.lit 0)) (.ap 1 (.ap 1 (.ap 1 (.ap 1 (.ap 3 (.mx (.ap 1 (.var 15) (.var 18) (.lit 0)) (.lit 21474836)) (.lit (-1)) (.lit 0)) (.var 16) (.lit 0)) (.var 19) (.lit 0)) (.ap 4 (.mx (.ap 2 (.var 23) (.var 21) (.lit 0)) (.lit 0)) (.var 4) (.lit 0)) (.lit 0)) (.var 20) (.lit 0)) (.lit 0)))))
 (.leaf (.int .i64 (.ap 1 (.ap 1 (.ap 1 (.ap 1 (.ap 1 (.ap 1 (.lit 0) (.var 5) (.lit 0)) (.var 5) (.lit 0)) (.var 5) (.lit 0)) (.var 5) (.lit 0)) (.var 5) (.lit 0)) (.ap 1 (.ap 1 (.ap 1 (.ap 1 (.ap 3 (.mx (.ap 1 (.var 15) (.var 18) (.lit 0)) (.lit 21474836)) (.lit (-1)) (.lit 0)) (.var 16) (.lit 0)) (.var 19) (.lit 0)) (.ap 4 (.mx (.ap 2 (.var 23) (.var 21) (.lit 0)) (.lit 0)) (.var 4) (.lit 0)) (.lit 0)) (.var 20) (.lit 0)) (.lit 0)))))
 (.leaf (.int .i64 (.ap 1 (.ap 1 (.ap 1 (.ap 1 (.ap 1 (.lit 0) (.var 5) (.lit 0)) (.var 5) (.lit 0)) (.var 5) (.lit 0)) (.var 5) (.lit 0)) (.ap 1 (.ap 1 (.ap 1 (.ap 1 (.ap 3 (.mx (.ap 1 (.var 15) (.var 18) (.lit 0)) (.lit 21474836)) (.lit (-1)) (.lit 0)) (.var 16) (.lit 0)) (.var 19) (.lit 0)) (.ap 4 (.mx (.ap 2 (.var 23) (.var 21) (.lit 0)) (.lit 0)) (.var 4) (.lit 0)) (.lit 0)) (.var 20) (.lit 0)) (.lit 0)))))
 (.leaf (.int .i64 (.ap 1 (.ap 1 (.ap 1 (.ap 1 (.lit 0) (.var 5) (.lit 0)) (.var 5) (.lit 0)) (.var 5) (.lit 0)) (.ap 1 (.ap 1 (.ap 1 (.ap 1 (.ap 3 (.mx (.ap 1 (.var 15) (.var 18) (.lit 0)) (.lit 21474836)) (.lit (-1)) (.lit 0)) (.var 16) (.lit 0)) (.var 19) (.lit 0)) (.ap 4 (.mx (.ap 2 (.var 23) (.var 21) (.lit 0)) (.lit 0)) (.var 4) (.lit 0)) (.lit 0)) (.var 20) (.lit 0)) (.lit 0)))))
 (.leaf (.int .i64 (.ap 1 (.ap 1 (.ap 1 (.lit 0) (.var 5) (.lit 0)) (.var 5) (.lit 0)) (.ap 1 (.ap 1 (.ap 1 (.ap 1 (.ap 3 (.mx (.ap 1 (.var 15) (.var 18) (.lit 0)) (.lit 21474836)) (.lit (-1)) (.lit 0)) (.var 16) (.lit 0)) (.var 19) (.lit 0)) (.ap 4 (.mx (.ap 2 (.var 23) (.var 21) (.lit 0)) (.lit 0)) (.var 4) (.lit 0)) (.lit 0)) (.var 20) (.lit 0)) (.lit 0)))))
 (.leaf (.int .i64 (.ap 1 (.ap 1 (.lit 0) (.var 5) (.lit 0)) (.ap 1 (.ap 1 (.ap 1 (.ap 1 (.ap 3 (.mx (.ap 1 (.var 15) (.var 18) (.lit 0)) (.lit 21474836)) (.lit (-1)) (.lit 0)) (.var 16) (.lit 0)) (.var 19) (.lit 0)) (.ap 4 (.mx (.ap 2 (.var 23) (.var 21) (.lit 0)) (.lit 0)) (.var 4) (.lit 0)) (.lit 0)) (.var 20) (.lit 0)) (.lit 0)))))
 (.leaf (.int .i64 (.ap 1 (.lit 0) (.ap 1 (.ap 1 (.ap 1 (.ap 1 (.ap 3 (.mx (.ap 1 (.var 15) (.var 18) (.lit 0)) (.lit 21474836)) (.lit (-1)) (.lit 0)) (.var 16) (.lit 0)) (.var 19) (.lit 0)) (.ap 4 (.mx (.ap 2 (.var 23) (.var 21) (.lit 0)) (.lit 0)) (.var 4) (.lit 0)) (.lit 0)) (.var 20) (.lit 0)) (.lit 0)))))
theorem met2_any (p0 p1 p2 p3 p4 p5 p6 p7 p8 p9 p10 p11 s0 s1 s2 s3 s4 s5 s6 s7 s8 s9 s10 at0 : Int) (k0 : InI p0) (k1 : InI p1) (k2 : InI p2) (k3 : InI p3) (k4 : InI p4) (k5 : InI p5) (k6 : InI p6) (k7 : InI p7) (k8 : InI p8) (k9 : InI p9) (k10 : InI p10) (k11 : InI p11) (k12 : InI s0) (k13 : InI s1) (k14 : 0 ≤ s2 ∧ s2 ≤ 4294967295) (k15 : InI s3) (k16 : InI s4) (k17 : InI s5) (k18 : InI s6) (k19 : InI s7) (k20 : InI s8) (k21 : InI s9) (k22 : 0 ≤ s10 ∧ s10 ≤ 255) (k23 : InI at0) (w : World) : Calls Try.prog 34 #[.agg #[.int .i64 p0, .int .i64 p1, .int .i64 p2, .int .i64 p3, .int .i64 p4, .int .i64 p5, .int .i64 p6, .int .i64 p7, .int .i64 p8, .int .i64 p9, .int .i64 p10, .int .i64 p11], .agg #[.int .i64 s0, .int .i64 s1, .int .u32 s2, .int .i64 s3, .int .i64 s4, .int .i64 s5, .int .i64 s6, .int .i64 s7, .int .i64 s8, .int .i64 s9, .int .u8 s10], .int .i64 at0] w fun e w' => e = .returned (.int .i64 (metP s1 p5 (mtD p4 s3 s4 s6 s7 s8 s9 at0))) ∧ Below w.heap.size w w' :=
  law_val (ρ := envOf [p0, p1, p2, p3, p4, p5, p6, p7, p8, p9, p10, p11, s0, s1, s2, s3, s4, s5, s6, s7, s8, s9, s10, at0] (ap := apN)) (rg := mtR) (ar := arN) (args := mtA) ⟨k0, k1, k2, k3, k4, k5, k6, k7, k8, k9, k10, k11, k12, k13, k14, k15, k16, k17, k18, k19, k20, k21, k22, k23, trivial⟩ (arIn_N rfl) (consS_ok (numA_N rfl)) (cr := []) (fun c hc => by cases hc) LpOk.none (nz := true) met2T (n := 1000) (Tree.ok_of_check (by kernel_rfl)) (Tree.whole_live (by kernel_rfl)) (by
    simp only [met2T, Tree.val, BE.den, cmpI, SV.den, IE.den, Bool.cond_decide, List.getD_cons_zero, List.getD_cons_succ, kk2]
    exact met_chain s1 p5 _) w

def rtT : Tree :=
(.node (.cmp .eql (.var 12) (.lit 3))
 (.leaf (.bool (.lit true)))
 (.node (.cmp .lss (.var 13) (.lit 1))
 (.leaf (.bool (.lit true)))
 (.node (.cmp .lss (.lit 15) (.var 13))
 (.leaf (.bool (.lit true)))
 (.node (.cmp .lss (.ap 1 (.ap 1 (.ap 1 (.ap 1 (.ap 3 (.mx (.ap 1 (.var 15) (.var 18) (.lit 0)) (.lit 21474836)) (.lit (-1)) (.lit 0)) (.var 16) (.lit 0)) (.var 19) (.lit 0)) (.ap 4 (.mx (.ap 2 (.var 25) (.var 21) (.lit 0)) (.lit 0)) (.var 4) (.lit 0)) (.lit 0)) (.var 20) (.lit 0)) (.ap 1 (.var 5) (.ap 4 (.ap 3 (.lit 4294967296) (.var 24) (.lit 0)) (.var 4) (.lit 0)) (.lit 0)))
 (.node (.cmp .eql (.var 14) (.var 23))
 (.node (.cmp .lss (.lit 1) (.var 13))
 (.leaf (.bool (.lit true)))
 (.node (.cmp .eql (.var 22) (.lit 0))
 (.leaf (.bool (.lit true)))
 (.leaf (.bool (.lit true)))))
 (.node (.cmp .eql (.var 22) (.lit 0))
 (.node (.cmp .lss (.lit 1) (.var 13))
 (.leaf (.bool (.lit true)))
 (.leaf (.bool (.lit true))))
 (.node (.cmp .lss (.lit 1) (.var 13))
 (.leaf (.bool (.lit true)))
 (.leaf (.bool (.lit true))))))
 (.leaf (.bool (.lit true)))))))
abbrev rtR : List (Int × Int) := [i64R, i64R, i64R, i64R, i64R, i64R, i64R, i64R, i64R, i64R, i64R, i64R, i64R, i64R, (0, 4294967295), i64R, i64R, i64R, i64R, i64R, i64R, i64R, (0, 255), (0, 4294967295), i64R, i64R, satR]
abbrev rtP : SV := .agg [.int .i64 (.var 0), .int .i64 (.var 1), .int .i64 (.var 2), .int .i64 (.var 3), .int .i64 (.var 4), .int .i64 (.var 5), .int .i64 (.var 6), .int .i64 (.var 7), .int .i64 (.var 8), .int .i64 (.var 9), .int .i64 (.var 10), .int .i64 (.var 11)]
abbrev rtS : SV := .agg [.int .i64 (.var 12), .int .i64 (.var 13), .int .u32 (.var 14), .int .i64 (.var 15), .int .i64 (.var 16), .int .i64 (.var 17), .int .i64 (.var 18), .int .i64 (.var 19), .int .i64 (.var 20), .int .i64 (.var 21), .int .u8 (.var 22)]
abbrev rtA : List SV := [rtP, rtS, .int .u32 (.var 23), .int .i64 (.var 24), .int .i64 (.var 25)]
abbrev rtK : List (FuncId × List SV × SV) := [(26, [], .bool (.lit true)), (33, [rtP, rtS, .int .i64 (.var 25)], .int .i64 (.var 26)), (34, [rtP, rtS, .int .i64 (.var 25)], .int .i64 (.var 26))]
theorem rt_ok : rtT.check Try.prog { pc := [], cr := rtK ++ crS, rg := rtR, ar := arN, ct := conCt rtR arN consS, nz := true } 1000 9 rtA = true := by kernel_rfl
def allT : Tree → Bool
  | .leaf (.bool (.lit true)) => true
  | .node _ t e => allT t && allT e
  | _ => false
theorem allT_good {ρ : Env} : ∀ (T : Tree), allT T = true → good ρ T = true
  | .leaf (.bool (.lit true)), _ => rfl
  | .node c t e, h => by
    simp only [allT, Bool.and_eq_true] at h
    unfold good
    rw [allT_good t h.1, allT_good e h.2, Bool.cond_self]
theorem rootdTells_walk (p0 p1 p2 p3 p4 p5 p6 p7 p8 p9 p10 p11 s0 s1 s2 s3 s4 s5 s6 s7 s8 s9 s10 own poll at0 : Int) (k0 : InI p0) (k1 : InI p1) (k2 : InI p2) (k3 : InI p3) (k4 : InI p4) (k5 : InI p5) (k6 : InI p6) (k7 : InI p7) (k8 : InI p8) (k9 : InI p9) (k10 : InI p10) (k11 : InI p11) (k12 : InI s0) (k13 : InI s1) (k14 : 0 ≤ s2 ∧ s2 ≤ 4294967295) (k15 : InI s3) (k16 : InI s4) (k17 : InI s5) (k18 : InI s6) (k19 : InI s7) (k20 : InI s8) (k21 : InI s9) (k22 : 0 ≤ s10 ∧ s10 ≤ 255) (k23 : 0 ≤ own ∧ own ≤ 4294967295) (k24 : InI poll) (k25 : InI at0) (w : World) :
    Calls Try.prog 9 #[.agg #[.int .i64 p0, .int .i64 p1, .int .i64 p2, .int .i64 p3, .int .i64 p4, .int .i64 p5, .int .i64 p6, .int .i64 p7, .int .i64 p8, .int .i64 p9, .int .i64 p10, .int .i64 p11], .agg #[.int .i64 s0, .int .i64 s1, .int .u32 s2, .int .i64 s3, .int .i64 s4, .int .i64 s5, .int .i64 s6, .int .i64 s7, .int .i64 s8, .int .i64 s9, .int .u8 s10], .int .u32 own, .int .i64 poll, .int .i64 at0] w fun e w' => e = .returned (.bool true) ∧ Below w.heap.size w w' := by
  refine law_con (ρ := envOf [p0, p1, p2, p3, p4, p5, p6, p7, p8, p9, p10, p11, s0, s1, s2, s3, s4, s5, s6, s7, s8, s9, s10, own, poll, at0, metP s1 p5 (mtD p4 s3 s4 s6 s7 s8 s9 at0)] (ap := apN)) (rg := rtR) (ar := arN) (args := rtA) ⟨k0, k1, k2, k3, k4, k5, k6, k7, k8, k9, k10, k11, k12, k13, k14, k15, k16, k17, k18, k19, k20, k21, k22, k23, k24, k25, met_in _ _ _, trivial⟩ (arIn_N rfl) (consS_ok (numA_N rfl)) (cr := rtK) (fun c hc => ?_) LpOk.none (xs := []) (fun _ _ h => by cases h) (nm := []) (fun p hp => by cases hp) (nz := true) rtT (Tree.ok_of_check rt_ok) (allT_good _ (by kernel_rfl)) w (ExtIn.none fun _ => rfl)
  simp only [rtK, List.mem_cons, List.not_mem_nil, or_false] at hc
  rcases hc with rfl | rfl | rfl
  · exact fun φ w _ => shown15 w
  · exact fun φ w _ => met1_any p0 p1 p2 p3 p4 p5 p6 p7 p8 p9 p10 p11 s0 s1 s2 s3 s4 s5 s6 s7 s8 s9 s10 at0 k0 k1 k2 k3 k4 k5 k6 k7 k8 k9 k10 k11 k12 k13 k14 k15 k16 k17 k18 k19 k20 k21 k22 k25 w
  · exact fun φ w _ => met2_any p0 p1 p2 p3 p4 p5 p6 p7 p8 p9 p10 p11 s0 s1 s2 s3 s4 s5 s6 s7 s8 s9 s10 at0 k0 k1 k2 k3 k4 k5 k6 k7 k8 k9 k10 k11 k12 k13 k14 k15 k16 k17 k18 k19 k20 k21 k22 k25 w
end Go.Proofs.Ytopgidgkpafeeaa
