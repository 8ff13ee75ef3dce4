/- Law 15: RootdSpans. -/
import Derived.Test.YtopgidgkpafeeaaT15
namespace Go.Proofs.Ytopgidgkpafeeaa
open Go Go.RowKit Ev
set_option linter.unusedVariables false
set_option linter.unusedSimpArgs false
set_option maxRecDepth 100000

def nest : Nat → IE
  | 0 => .lit 0
  | n + 1 => .ap 1 (nest n) (.lit 6442450944) (.lit 0)
theorem nest_den {ρ : Env} (h : ρ.a = apN) : ∀ n : Nat, n ≤ 16 → (nest n).den ρ = 6442450944 * n
  | 0, _ => rfl
  | n + 1, hn => by
    show ρ.a 1 ((nest n).den ρ) 6442450944 0 = _
    rw [h, nest_den h n (by omega), rd_ap1, sat_of (by omega)]
    push_cast; omega
/-- its metric -/
def Srv.metric (s : Srv) (at' : Int) : Int := sat (6442450944 * min s.strat 16 + s.dist at')
abbrev mtR (k : Int) : List (Int × Int) := [rdI, (k, k), (0, 4294967295), rdI, rdI, rdI, rdI, rdI, rdI, rdI, (0, 255), rdI, satR]
theorem metric_k (k m : Nat) (hm : m ≤ 16) (hk : min (k : Int) 16 = m) (hT : (Tree.leaf (.int .i64 (.ap 1 (nest m) (.var 12) (.lit 0)))).check Try.prog { pc := [], cr := [(27, [stdS, srvS, .int .i64 (.var 11)], .int .i64 (.var 12))] ++ crS, rg := mtR k, ar := arN, ct := conCt (mtR k) arN consN } 600 33 [stdS, srvS, .int .i64 (.var 11)] = true)
    (s : Srv) (h : s.ok) (hs : s.strat = k) (at' : Int) (ha : InI at') (w : World) :
    Calls Try.prog 33 #[stdS.den (envOf []) id, s.val, .int .i64 at'] w fun e w' => e = .returned (.int .i64 (s.metric at')) ∧ Below w.heap.size w w' :=
  law_any (bs := []) (fs := []) (is := s.is ++ [at', s.dist at']) (rg := mtR k) (args := [stdS, srvS, .int .i64 (.var 11)]) ⟨h.leap, ⟨by show (k : Int) ≤ s.strat; omega, by show s.strat ≤ (k : Int); omega⟩, h.ref, h.delay, h.disp, h.toff, h.tdelay, h.tdisp, h.tjit, h.tat, h.reg, ha, dist_in s at', trivial⟩
    (cr := [(27, [stdS, srvS, .int .i64 (.var 11)], .int .i64 (.var 12))]) (fun c hc => by rw [List.mem_singleton.1 hc]; exact fun φ w _ => dist_any s h at' ha w)
    _ hT rfl (by
      simp only [Tree.val, SV.den]
      congr 1
      show apN 1 ((nest m).den _) (s.dist at') 0 = _
      rw [nest_den rfl m hm, rd_ap1]
      unfold Srv.metric
      rw [hs, hk]) w
theorem metric_any (s : Srv) (h : s.ok) (hs : 0 ≤ s.strat ∧ s.strat ≤ 18) (at' : Int) (ha : InI at') (w : World) :
    Calls Try.prog 33 #[stdS.den (envOf []) id, s.val, .int .i64 at'] w fun e w' => e = .returned (.int .i64 (s.metric at')) ∧ Below w.heap.size w w' := by
  obtain ⟨k, hk⟩ : ∃ k : Nat, s.strat = k := ⟨s.strat.toNat, by omega⟩
  have hk18 : k ≤ 18 := by omega
  rcases k with _ | _ | _ | _ | _ | _ | _ | _ | _ | _ | _ | _ | _ | _ | _ | _ | _ | _ | _ | k
  · exact metric_k 0 0 (by decide) (by decide) (by kernel_rfl) s h hk at' ha w
  · exact metric_k 1 1 (by decide) (by decide) (by kernel_rfl) s h hk at' ha w
  · exact metric_k 2 2 (by decide) (by decide) (by kernel_rfl) s h hk at' ha w
  · exact metric_k 3 3 (by decide) (by decide) (by kernel_rfl) s h hk at' ha w
  · exact metric_k 4 4 (by decide) (by decide) (by kernel_rfl) s h hk at' ha w
  · exact metric_k 5 5 (by decide) (by decide) (by kernel_rfl) s h hk at' ha w
  · exact metric_k 6 6 (by decide) (by decide) (by kernel_rfl) s h hk at' ha w
  · exact metric_k 7 7 (by decide) (by decide) (by kernel_rfl) s h hk at' ha w
  · exact metric_k 8 8 (by decide) (by decide) (by kernel_rfl) s h hk at' ha w
  · exact metric_k 9 9 (by decide) (by decide) (by kernel_rfl) s h hk at' ha w
  · exact metric_k 10 10 (by decide) (by decide) (by kernel_rfl) s h hk at' ha w
  · exact metric_k 11 11 (by decide) (by decide) (by kernel_rfl) s h hk at' ha w
  · exact metric_k 12 12 (by decide) (by decide) (by kernel_rfl) s h hk at' ha w
  · exact metric_k 13 13 (by decide) (by decide) (by kernel_rfl) s h hk at' ha w
  · exact metric_k 14 14 (by decide) (by decide) (by kernel_rfl) s h hk at' ha w
  · exact metric_k 15 15 (by decide) (by decide) (by kernel_rfl) s h hk at' ha w
  · exact metric_k 16 16 (by decide) (by decide) (by kernel_rfl) s h hk at' ha w
  · exact metric_k 17 16 (by decide) (by decide) (by kernel_rfl) s h hk at' ha w
  · exact metric_k 18 16 (by decide) (by decide) (by kernel_rfl) s h hk at' ha w
  · omega
abbrev rpS : SV := .agg [.int .i64 (.var 0), .int .i64 (.pl .add (.pl .add (.var 1) (.lit 1)) (.ar .rem .i64 (.var 12) (.lit 3))), .int .u32 (.var 2), .int .i64 (.var 3), .int .i64 (.var 4), .int .i64 (.var 5), .int .i64 (.var 6), .int .i64 (.var 7), .int .i64 (.var 8), .int .i64 (.var 9), .int .u8 (.var 10)]
def rpT : Tree :=
(.node (.cmp .lss (.lit (-2305843009213693952)) (.var 13))
 (.node (.cmp .lss (.var 13) (.lit 2305843009213693952))
 (.node (.cmp .lss (.lit (-2305843009213693952)) (.mx (.var 5) (.lit (-9223372036854775807))))
 (.node (.cmp .lss (.var 15) (.var 14))
 (.leaf (.bool (.lit false)))
 (.node (.cmp .eql (.var 13) (.var 13))
 (.node (.cmp .lss (.mx (.var 5) (.lit (-9223372036854775807))) (.lit 2305843009213693952))
 (.node (.cmp .eql (.ar .sub .i64 (.ap 1 (.var 5) (.var 13) (.lit 0)) (.ap 2 (.var 5) (.var 13) (.lit 0))) (.ar .mul .i64 (.lit 2) (.var 13)))
 (.leaf (.bool (.cmp .eql (.ar .add .i64 (.ap 2 (.var 5) (.var 13) (.lit 0)) (.var 13)) (.mx (.var 5) (.lit (-9223372036854775807))))))
 (.leaf (.bool (.lit false))))
 (.leaf (.bool (.lit true))))
 (.leaf (.bool (.lit false)))))
 (.node (.cmp .lss (.var 15) (.var 14))
 (.leaf (.bool (.lit false)))
 (.node (.cmp .eql (.var 13) (.var 13))
 (.leaf (.bool (.lit true)))
 (.leaf (.bool (.lit false))))))
 (.node (.cmp .lss (.var 15) (.var 14))
 (.leaf (.bool (.lit false)))
 (.node (.cmp .eql (.var 13) (.var 13))
 (.leaf (.bool (.lit true)))
 (.leaf (.bool (.lit false))))))
 (.node (.cmp .lss (.var 15) (.var 14))
 (.leaf (.bool (.lit false)))
 (.node (.cmp .eql (.var 13) (.var 13))
 (.leaf (.bool (.lit true)))
 (.leaf (.bool (.lit false))))))
theorem rp_out (s : Srv) (h : s.ok) (at' k : Int) (ha : 0 ≤ at' ∧ at' ≤ 4294967295) (hk : 0 ≤ k ∧ k ≤ 255) (v : Int × Int) (hv : v.1 ≤ s.strat ∧ s.strat ≤ v.2)
    (hT : (Tree.leaf (.bool (.lit true))).check Try.prog { pc := [], cr := k15 ++ crS, rg := [rdI, v, (0, 4294967295), rdI, rdI, rdI, rdI, rdI, rdI, rdI, (0, 255), (0, 4294967295), (0, 255)], ar := arN, ct := conCt [rdI, v, (0, 4294967295), rdI, rdI, rdI, rdI, rdI, rdI, rdI, (0, 255), (0, 4294967295), (0, 255)] arN consN } 600 10 [srvS, .int .u32 (.var 11), .int .u8 (.var 12)] = true) (w : World) :
    Calls Try.prog 10 #[s.val, .int .u32 at', .int .u8 k] w fun e w' => e = .returned (.bool true) ∧ Below w.heap.size w w' :=
  law_any (bs := []) (fs := []) (is := s.is ++ [at', k]) (rg := [rdI, v, (0, 4294967295), rdI, rdI, rdI, rdI, rdI, rdI, rdI, (0, 255), (0, 4294967295), (0, 255)]) (args := [srvS, .int .u32 (.var 11), .int .u8 (.var 12)]) ⟨h.leap, hv, h.ref, h.delay, h.disp, h.toff, h.tdelay, h.tdisp, h.tjit, h.tat, h.reg, ha, hk, trivial⟩ (cr := k15) k15_ok _ hT rfl rfl w
theorem rootdSpans_walk (s : Srv) (h : s.ok) (at' k : Int) (ha : 0 ≤ at' ∧ at' ≤ 4294967295) (hk : 0 ≤ k ∧ k ≤ 255) (w : World) :
    Calls Try.prog 10 #[s.val, .int .u32 at', .int .u8 k] w fun e w' => e = .returned (.bool true) ∧ Below w.heap.size w w' := by
  have hs := h.strat
  unfold InI at hs
  by_cases c1 : s.strat ≤ -1
  · exact rp_out s h at' k ha hk (-9223372036854775808, -1) ⟨hs.1, c1⟩ (by kernel_rfl) w
  by_cases c2 : 16 ≤ s.strat
  · exact rp_out s h at' k ha hk (16, 9223372036854775807) ⟨c2, hs.2⟩ (by kernel_rfl) w
  have hst : 0 ≤ s.strat ∧ s.strat ≤ 15 := by omega
  have ha' : InI at' := by unfold InI; omega
  have hkm : k.tmod 3 = k % 3 := Int.tmod_eq_emod_of_nonneg hk.1
  have h2 : ({ s with strat := s.strat + 1 + k.tmod 3 } : Srv).ok := ⟨h.leap, by show InI (s.strat + 1 + k.tmod 3); unfold InI; rw [hkm]; omega, h.ref, h.delay, h.disp, h.toff, h.tdelay, h.tdisp, h.tjit, h.tat, h.reg⟩
  have d := dist_in s at'
  have m1 : -9223372036854775807 ≤ s.metric at' ∧ s.metric at' ≤ 9223372036854775807 := sat_in _
  have m2 : -9223372036854775807 ≤ ({ s with strat := s.strat + 1 + k.tmod 3 } : Srv).metric at' ∧ ({ s with strat := s.strat + 1 + k.tmod 3 } : Srv).metric at' ≤ 9223372036854775807 := sat_in _
  refine law_any (bs := []) (fs := []) (is := s.is ++ [at', k, s.dist at', s.metric at', ({ s with strat := s.strat + 1 + k.tmod 3 } : Srv).metric at']) (rg := [rdI, (0, 15), (0, 4294967295), rdI, rdI, rdI, rdI, rdI, rdI, rdI, (0, 255), (0, 4294967295), (0, 255), satR, satR, satR]) (args := [srvS, .int .u32 (.var 11), .int .u8 (.var 12)])
    ⟨h.leap, hst, h.ref, h.delay, h.disp, h.toff, h.tdelay, h.tdisp, h.tjit, h.tat, h.reg, ha, hk, d, m1, m2, trivial⟩
    (cr := k15 ++ [(27, [stdS, srvS, .int .i64 (.var 11)], .int .i64 (.var 13)), (27, [stdS, rpS, .int .i64 (.var 11)], .int .i64 (.var 13)), (33, [stdS, srvS, .int .i64 (.var 11)], .int .i64 (.var 14)), (33, [stdS, rpS, .int .i64 (.var 11)], .int .i64 (.var 15))]) (fun c hc => ?_) rpT (n := 600) (by kernel_rfl) (Tree.whole_live (by kernel_rfl)) ?_ w
  · rcases List.mem_append.1 hc with hc | hc
    · exact k15_ok c hc
    · simp only [List.mem_cons, List.not_mem_nil, or_false] at hc
      rcases hc with rfl | rfl | rfl | rfl
      · exact fun φ w _ => dist_any s h at' ha' w
      · exact fun φ w _ => dist_any _ h2 at' ha' w
      · exact fun φ w _ => metric_any s h (by omega) at' ha' w
      · exact fun φ w _ => metric_any _ h2 (by show 0 ≤ s.strat + 1 + k.tmod 3 ∧ s.strat + 1 + k.tmod 3 ≤ 18; rw [hkm]; omega) at' ha' w
  · have ho := h.toff
    unfold InI at ho
    have hm : s.metric at' ≤ ({ s with strat := s.strat + 1 + k.tmod 3 } : Srv).metric at' := by
      unfold Srv.metric
      have ed : ({ s with strat := s.strat + 1 + k.tmod 3 } : Srv).dist at' = s.dist at' := rfl
      rw [ed]
      refine sat_mono ?_
      show 6442450944 * min s.strat 16 + s.dist at' ≤ 6442450944 * min (s.strat + 1 + k.tmod 3) 16 + s.dist at'
      rw [hkm]; omega
    simp only [rpT, Tree.val, BE.den, cmpI, SV.den, IE.den, Srv.is, List.cons_append, List.nil_append, List.getD_cons_zero, List.getD_cons_succ, rd_ap1, rd_ap2, rd_mx, beq_self_eq_true, cond_true, Bool.cond_decide]
    have hneg : ¬ ({ s with strat := s.strat + 1 + k.tmod 3 } : Srv).metric at' < s.metric at' := by omega
    simp only [hneg, if_false]
    generalize s.dist at' = x at d ⊢
    by_cases g1 : -2305843009213693952 < x
    · rw [if_pos g1]
      by_cases g2 : x < 2305843009213693952
      · rw [if_pos g2]
        by_cases g3 : -2305843009213693952 < max s.toff (-9223372036854775807)
        · rw [if_pos g3]
          by_cases g4 : max s.toff (-9223372036854775807) < 2305843009213693952
          · rw [if_pos g4]
            have e1 : sat (s.toff + x) = s.toff + x := sat_of (by omega)
            have e2 : sat (s.toff - x) = s.toff - x := sat_of (by omega)
            rw [e1, e2]
            have w1 : arI .sub .i64 (s.toff + x) (s.toff - x) = 2 * x := by show IntKind.i64.wrap _ = _; rw [IntKind.wrap_i64]; omega
            have w2 : arI .mul .i64 2 x = 2 * x := by show IntKind.i64.wrap _ = _; rw [IntKind.wrap_i64]; omega
            have w3 : arI .add .i64 (s.toff - x) x = max s.toff (-9223372036854775807) := by show IntKind.i64.wrap _ = _; rw [IntKind.wrap_i64]; omega
            rw [w1, w2, w3, beq_self_eq_true, beq_self_eq_true]
            rfl
          · rw [if_neg g4]
        · rw [if_neg g3]
      · rw [if_neg g2]
    · rw [if_neg g1]
end Go.Proofs.Ytopgidgkpafeeaa
