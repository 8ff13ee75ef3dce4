/- Law 15: RootdAges, RootdFits. -/
import Derived.Test.YtopgidgkpafeeaaT15
namespace Go.Proofs.Ytopgidgkpafeeaa
open Go Go.RowKit Ev
set_option linter.unusedVariables false
set_option linter.unusedSimpArgs false
set_option maxRecDepth 100000

def raT : Tree :=
(.node (.cmp .lss (.var 14) (.var 13))
 (.leaf (.bool (.lit false)))
 (.node (.cmp .lss (.ap 2 (.var 5) (.var 13) (.lit 0)) (.ap 2 (.var 5) (.var 14) (.lit 0)))
 (.leaf (.bool (.lit false)))
 (.node (.cmp .lss (.ap 1 (.var 5) (.var 14) (.lit 0)) (.ap 1 (.var 5) (.var 13) (.lit 0)))
 (.leaf (.bool (.lit false)))
 (.node (.cmp .lss (.var 4) (.lit 0))
 (.leaf (.bool (.lit true)))
 (.node (.cmp .lss (.var 7) (.lit 0))
 (.leaf (.bool (.lit true)))
 (.node (.cmp .lss (.var 8) (.lit 0))
 (.leaf (.bool (.lit true)))
 (.node (.cmp .lss (.var 13) (.lit 10737418))
 (.leaf (.bool (.lit false)))
 (.node (.cmp .lss (.mx (.var 5) (.lit (-9223372036854775807))) (.ap 2 (.var 5) (.var 13) (.lit 0)))
 (.leaf (.bool (.lit false)))
 (.leaf (.bool (.cmp .leq (.mx (.var 5) (.lit (-9223372036854775807))) (.ap 1 (.var 5) (.var 13) (.lit 0)))))))))))))
theorem rootdAges_walk (s : Srv) (h : s.ok) (a b : Int) (ha : InI a) (hb : InI b) (w : World) :
    Calls Try.prog 8 #[s.val, .int .i64 a, .int .i64 b] w fun e w' => e = .returned (.bool true) ∧ Below w.heap.size w w' := by
  have hmn : InI (min a b) := by unfold InI at *; omega
  have hmx : InI (max a b) := by unfold InI at *; omega
  have hm := dist_mono s (show min a b ≤ max a b by omega)
  have d1 := dist_in s (min a b)
  have d2 := dist_in s (max a b)
  refine law_any (bs := []) (fs := []) (is := s.is ++ [a, b, s.dist (min a b), s.dist (max a b)]) (rg := srvR ++ [rdI, rdI, satR, satR]) (args := [srvS, .int .i64 (.var 11), .int .i64 (.var 12)])
    ⟨h.leap, h.strat, h.ref, h.delay, h.disp, h.toff, h.tdelay, h.tdisp, h.tjit, h.tat, h.reg, ha, hb, d1, d2, trivial⟩
    (cr := k15 ++ [(27, [stdS, srvS, .int .i64 (.mn (.var 11) (.var 12))], .int .i64 (.var 13)), (27, [stdS, srvS, .int .i64 (.mx (.var 11) (.var 12))], .int .i64 (.var 14))]) (fun c hc => ?_) raT (n := 600) (by kernel_rfl) (Tree.whole_live (by kernel_rfl)) ?_ w
  · rcases List.mem_append.1 hc with hc | hc
    · exact k15_ok c hc
    · simp only [List.mem_cons, List.not_mem_nil, or_false] at hc
      rcases hc with rfl | rfl
      · intro φ w _
        have := dist_any s h (min a b) hmn w
        rw [← rd_mn] at this
        rw [← rd_mn]
        exact this
      · intro φ w _
        have := dist_any s h (max a b) hmx w
        rw [← rd_mx] at this
        rw [← rd_mx]
        exact this
  · simp only [raT, Tree.val, BE.den, cmpI, SV.den, IE.den, Srv.is, List.cons_append, List.nil_append, List.getD_cons_zero, List.getD_cons_succ, rd_ap1, rd_ap2, rd_mx, Bool.cond_decide]
    have hle := dist_least s (min a b)
    have ho := h.toff
    unfold InI at ho
    generalize s.dist (min a b) = x at *
    generalize s.dist (max a b) = y at *
    have g2 := sat_mono (show s.toff - y ≤ s.toff - x by omega)
    have g3 := sat_mono (show s.toff + x ≤ s.toff + y by omega)
    rw [if_neg (by omega), if_neg (by omega), if_neg (by omega)]
    by_cases c1 : s.disp < 0
    · rw [if_pos c1]
    rw [if_neg c1]
    by_cases c2 : s.tdisp < 0
    · rw [if_pos c2]
    rw [if_neg c2]
    by_cases c3 : s.tjit < 0
    · rw [if_pos c3]
    rw [if_neg c3]
    have hx := hle (by omega) (by omega) (by omega)
    rw [if_neg (by omega), if_neg (by unfold sat; omega)]
    rw [decide_eq_true (by unfold sat; omega)]
def rfT : Tree :=
(.node (.cmp .eql (.var 14) (.lit 0))
 (.node (.cmp .lss (.var 1) (.lit 1))
 (.leaf (.bool (.lit false)))
 (.node (.cmp .lss (.lit 15) (.var 1))
 (.leaf (.bool (.lit false)))
 (.node (.cmp .lss (.var 17) (.lit 21474836480))
 (.node (.cmp .eql (.var 15) (.lit 3))
 (.leaf (.bool (.cmp .eql (.var 16) (.lit 123))))
 (.leaf (.bool (.lit false))))
 (.leaf (.bool (.lit false))))))
 (.node (.cmp .eql (.var 14) (.lit 123))
 (.leaf (.bool (.lit true)))
 (.node (.cmp .eql (.var 14) (.lit 124))
 (.leaf (.bool (.lit true)))
 (.node (.cmp .eql (.var 14) (.lit 4))
 (.leaf (.bool (.lit true)))
 (.leaf (.bool (.cmp .eql (.var 14) (.lit 3))))))))
abbrev srvS2 : SV := .agg [.int .i64 (.var 0), .int .i64 (.var 1), .int .u32 (.var 2), .int .i64 (.var 3), .int .i64 (.var 4), .int .i64 (.var 5), .int .i64 (.var 6), .int .i64 (.var 7), .int .i64 (.var 8), .int .i64 (.var 9), .int .u8 (.lit 0)]
abbrev srvS3 : SV := .agg [.int .i64 (.lit 3), .int .i64 (.var 1), .int .u32 (.var 2), .int .i64 (.var 3), .int .i64 (.var 4), .int .i64 (.var 5), .int .i64 (.var 6), .int .i64 (.var 7), .int .i64 (.var 8), .int .i64 (.var 9), .int .u8 (.lit 0)]
abbrev rfP : List SV := [.int .u32 (.var 11), .int .i64 (.ar .rem .i64 (.var 12) (.lit 18)), .int .i64 (.var 13)]
theorem fit_in (s : Srv) (own near at' : Int) : s.fit own near at' = 123 ∨ s.fit own near at' = 124 ∨ s.fit own near at' = 4 ∨ s.fit own near at' = 3 ∨ s.fit own near at' = 0 := by
  unfold Srv.fit
  repeat' split
  all_goals decide
theorem near_le {p : Int} (h : 0 ≤ p ∧ p ≤ 17) : rdNear p < 21474836480 := by
  have : p = 0 ∨ p = 1 ∨ p = 2 ∨ p = 3 ∨ p = 4 ∨ p = 5 ∨ p = 6 ∨ p = 7 ∨ p = 8 ∨ p = 9 ∨ p = 10 ∨ p = 11 ∨ p = 12 ∨ p = 13 ∨ p = 14 ∨ p = 15 ∨ p = 16 ∨ p = 17 := by omega
  rcases this with rfl | rfl | rfl | rfl | rfl | rfl | rfl | rfl | rfl | rfl | rfl | rfl | rfl | rfl | rfl | rfl | rfl | rfl <;> decide +kernel
theorem rootdFits_walk (s : Srv) (h : s.ok) (own poll at' : Int) (ho : 0 ≤ own ∧ own ≤ 4294967295) (hp : 0 ≤ poll ∧ poll ≤ 255) (ha : 0 ≤ at' ∧ at' ≤ 4294967295) (w : World) :
    Calls Try.prog 7 #[s.val, .int .u32 own, .int .u8 poll, .int .u32 at'] w fun e w' => e = .returned (.bool true) ∧ Below w.heap.size w w' := by
  have ha' : InI at' := by unfold InI; omega
  have hp' : InI (poll.tmod 18) := by unfold InI; rw [Int.tmod_eq_emod_of_nonneg hp.1]; omega
  have hpm : poll.tmod 18 = poll % 18 := Int.tmod_eq_emod_of_nonneg hp.1
  have hn := near_le (p := poll.tmod 18) (by rw [hpm]; omega)
  generalize hN : rdNear (poll.tmod 18) = N at hn
  have hz : (0 : Int) ≤ 0 ∧ (0 : Int) ≤ 255 := by decide
  have h2 : ({ s with reg := 0 } : Srv).ok := ⟨h.leap, h.strat, h.ref, h.delay, h.disp, h.toff, h.tdelay, h.tdisp, h.tjit, h.tat, hz⟩
  have h3 : ({ s with reg := 0, leap := 3 } : Srv).ok := ⟨by show InI 3; unfold InI; decide, h.strat, h.ref, h.delay, h.disp, h.toff, h.tdelay, h.tdisp, h.tjit, h.tat, hz⟩
  have f0 : ∀ t : Srv, 0 ≤ t.fit own N at' ∧ t.fit own N at' ≤ 200 := fun t => by rcases fit_in t own N at' with e | e | e | e | e <;> rw [e] <;> decide
  have f1 := f0 s
  have f2 := f0 { s with reg := 0 }
  have f3 := f0 { s with reg := 0, leap := 3 }
  have d := dist_in s at'
  refine law_any (bs := []) (fs := []) (is := s.is ++ [own, poll, at', s.fit own N at', ({ s with reg := 0 } : Srv).fit own N at', ({ s with reg := 0, leap := 3 } : Srv).fit own N at', s.dist at']) (rg := srvR ++ [(0, 4294967295), (0, 255), (0, 4294967295), (0, 200), (0, 200), (0, 200), satR]) (args := [srvS, .int .u32 (.var 11), .int .u8 (.var 12), .int .u32 (.var 13)])
    ⟨h.leap, h.strat, h.ref, h.delay, h.disp, h.toff, h.tdelay, h.tdisp, h.tjit, h.tat, h.reg, ho, hp, ha, f1, f2, f3, d, trivial⟩
    (cr := k15 ++ [(25, [stdS, srvS] ++ rfP, .int .i64 (.var 14)), (25, [stdS, srvS2] ++ rfP, .int .i64 (.var 15)), (25, [stdS, srvS3] ++ rfP, .int .i64 (.var 16)), (27, [stdS, srvS3, .int .i64 (.var 13)], .int .i64 (.var 17))]) (fun c hc => ?_) rfT (n := 600) (by kernel_rfl) (Tree.whole_live (by kernel_rfl)) ?_ w
  · rcases List.mem_append.1 hc with hc | hc
    · exact k15_ok c hc
    · simp only [List.mem_cons, List.not_mem_nil, or_false] at hc
      rcases hc with rfl | rfl | rfl | rfl
      · intro φ w _
        have := fit_any s h own (poll.tmod 18) at' ho hp' ha' w
        rw [hN] at this
        exact this
      · intro φ w _
        have := fit_any _ h2 own (poll.tmod 18) at' ho hp' ha' w
        rw [hN] at this
        exact this
      · intro φ w _
        have := fit_any _ h3 own (poll.tmod 18) at' ho hp' ha' w
        rw [hN] at this
        exact this
      · intro φ w _
        exact dist_any _ h3 at' ha' w
  · simp only [rfT, Tree.val, BE.den, cmpI, SV.den, IE.den, Srv.is, List.cons_append, List.nil_append, List.getD_cons_zero, List.getD_cons_succ, beq_dec, Bool.cond_decide]
    have e3 : ({ s with reg := 0, leap := 3 } : Srv).fit own N at' = 123 := by unfold Srv.fit; rw [if_pos rfl]
    rw [e3]
    by_cases hz : s.fit own N at' = 0
    · rw [if_pos hz]
      unfold Srv.fit at hz ⊢
      have ed : ({ s with reg := 0 } : Srv).dist at' = s.dist at' := rfl
      simp only [ed]
      by_cases g1 : s.leap = 3
      · rw [if_pos g1] at hz; omega
      rw [if_neg g1] at hz ⊢
      by_cases g2 : s.strat < 1
      · rw [if_pos g2] at hz; omega
      rw [if_neg g2] at hz ⊢
      by_cases g3 : 15 < s.strat
      · rw [if_pos g3] at hz; omega
      rw [if_neg g3] at hz ⊢
      by_cases g4 : s.dist at' < N
      · rw [if_pos g4] at hz ⊢
        rw [if_neg g2, if_neg g3, if_pos (by omega)]
        by_cases g5 : s.ref = own
        · rw [if_pos g5] at hz ⊢
          by_cases g6 : 1 < s.strat
          · rw [if_pos g6] at hz; omega
          · rw [if_neg g6]; simp
        · simp [g5]
      · rw [if_neg g4] at hz; omega
    · rw [if_neg hz]
      rcases fit_in s own N at' with e | e | e | e | e <;> rw [e] at hz ⊢ <;> first | rfl | exact absurd rfl hz
end Go.Proofs.Ytopgidgkpafeeaa
