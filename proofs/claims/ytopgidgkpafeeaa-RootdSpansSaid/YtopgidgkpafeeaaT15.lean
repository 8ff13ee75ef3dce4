/- Law 15: what is standard, what is shown; how far a server is, is it fit. -/
import Derived.Test.YtopgidgkpafeeaaEvS
namespace Go.Proofs.Ytopgidgkpafeeaa
open Go Go.RowKit Ev
set_option linter.unusedVariables false
set_option linter.unusedSimpArgs false
set_option maxRecDepth 100000

theorem shown15 (w : World) : Calls Try.prog 26 #[] w fun e w' => e = .returned (.bool true) ∧ Below w.heap.size w w' :=
  closed_call (args := []) (v := .bool (.lit true)) (by kernel_rfl) rfl w
theorem standard15 (w : World) : Calls Try.prog 24 #[] w fun e w' => e = .returned (stdS.den (envOf []) id) ∧ Below w.heap.size w w' :=
  closed_call (args := []) (v := stdS) (by kernel_rfl) rfl w
abbrev rdI : Int × Int := (-9223372036854775808, 9223372036854775807)
abbrev k15 : List (FuncId × List SV × SV) := [(26, [], .bool (.lit true)), (24, [], stdS)]
theorem k15_ok {ρ : Env} : ∀ c ∈ k15, Known Try.prog ρ c := by
  intro c hc
  simp only [k15, List.mem_cons, List.not_mem_nil, or_false] at hc
  rcases hc with rfl | rfl
  · exact fun φ w _ => shown15 w
  · exact fun φ w _ => standard15 w
theorem rd_ap1 (a b c : Int) : apN 1 a b c = sat (a + b) := rfl
theorem rd_ap2 (a b c : Int) : apN 2 a b c = sat (a - b) := rfl
theorem rd_ap4 (a b c : Int) : apN 4 a b c = sat (a * b / 4294967296) := rfl
theorem rd_half (x c : Int) : apN 3 x (-1) c = sat (x / 2) := rfl
theorem rd_mn (a b : Int) : mnI a b = min a b := by unfold mnI; split <;> omega
theorem rd_mx (a b : Int) : mxI a b = max a b := by unfold mxI; split <;> omega
/-- a server: its numbers -/
structure Srv where
  leap : Int
  strat : Int
  ref : Int
  delay : Int
  disp : Int
  toff : Int
  tdelay : Int
  tdisp : Int
  tjit : Int
  tat : Int
  reg : Int
def InI (x : Int) : Prop := -9223372036854775808 ≤ x ∧ x ≤ 9223372036854775807
structure Srv.ok (s : Srv) : Prop where
  leap : InI s.leap
  strat : InI s.strat
  ref : 0 ≤ s.ref ∧ s.ref ≤ 4294967295
  delay : InI s.delay
  disp : InI s.disp
  toff : InI s.toff
  tdelay : InI s.tdelay
  tdisp : InI s.tdisp
  tjit : InI s.tjit
  tat : InI s.tat
  reg : 0 ≤ s.reg ∧ s.reg ≤ 255
def Srv.val (s : Srv) : Value := .agg #[.int .i64 s.leap, .int .i64 s.strat, .int .u32 s.ref, .int .i64 s.delay, .int .i64 s.disp, .int .i64 s.toff, .int .i64 s.tdelay, .int .i64 s.tdisp, .int .i64 s.tjit, .int .i64 s.tat, .int .u8 s.reg]
abbrev Srv.is (s : Srv) : List Int := [s.leap, s.strat, s.ref, s.delay, s.disp, s.toff, s.tdelay, s.tdisp, s.tjit, s.tat, s.reg]
abbrev srvR : List (Int × Int) := [rdI, rdI, (0, 4294967295), rdI, rdI, rdI, rdI, rdI, rdI, rdI, (0, 255)]
abbrev srvS : SV := .agg [.int .i64 (.var 0), .int .i64 (.var 1), .int .u32 (.var 2), .int .i64 (.var 3), .int .i64 (.var 4), .int .i64 (.var 5), .int .i64 (.var 6), .int .i64 (.var 7), .int .i64 (.var 8), .int .i64 (.var 9), .int .u8 (.var 10)]
/-- how far it is -/
def Srv.dist (s : Srv) (at' : Int) : Int := sat (sat (sat (sat (sat (max (sat (s.delay + s.tdelay)) 21474836 / 2) + s.disp) + s.tdisp) + sat (max (sat (at' - s.tat)) 0 * 64424 / 4294967296)) + s.tjit)
theorem dist_any (s : Srv) (h : s.ok) (at' : Int) (ha : InI at') (w : World) :
    Calls Try.prog 27 #[stdS.den (envOf []) id, s.val, .int .i64 at'] w fun e w' => e = .returned (.int .i64 (s.dist at')) ∧ Below w.heap.size w w' :=
  law_any (bs := []) (fs := []) (is := s.is ++ [at']) (rg := srvR ++ [rdI]) (args := [stdS, srvS, .int .i64 (.var 11)]) ⟨h.leap, h.strat, h.ref, h.delay, h.disp, h.toff, h.tdelay, h.tdisp, h.tjit, h.tat, h.reg, ha, trivial⟩ (cr := []) (fun c hc => by cases hc)
    (.leaf (.int .i64 (.ap 1 (.ap 1 (.ap 1 (.ap 1 (.ap 3 (.mx (.ap 1 (.var 3) (.var 6) (.lit 0)) (.lit 21474836)) (.lit (-1)) (.lit 0)) (.var 4) (.lit 0)) (.var 7) (.lit 0)) (.ap 4 (.mx (.ap 2 (.var 11) (.var 9) (.lit 0)) (.lit 0)) (.lit 64424) (.lit 0)) (.lit 0)) (.var 8) (.lit 0)))) (n := 600) (by kernel_rfl) rfl (by
      simp only [Tree.val, SV.den, IE.den, Srv.is, List.cons_append, List.nil_append, List.getD_cons_zero, List.getD_cons_succ, rd_ap1, rd_ap2, rd_half, rd_ap4, rd_mx]
      rfl) w
theorem dist_in (s : Srv) (at' : Int) : -9223372036854775807 ≤ s.dist at' ∧ s.dist at' ≤ 9223372036854775807 := sat_in _
theorem dist_mono (s : Srv) {a b : Int} (h : a ≤ b) : s.dist a ≤ s.dist b := by
  unfold Srv.dist
  have h1 : sat (max (sat (a - s.tat)) 0 * 64424 / 4294967296) ≤ sat (max (sat (b - s.tat)) 0 * 64424 / 4294967296) := by unfold sat; omega
  refine sat_mono ?_
  have := sat_mono (show sat (sat (sat (max (sat (s.delay + s.tdelay)) 21474836 / 2) + s.disp) + s.tdisp) + sat (max (sat (a - s.tat)) 0 * 64424 / 4294967296) ≤ sat (sat (sat (max (sat (s.delay + s.tdelay)) 21474836 / 2) + s.disp) + s.tdisp) + sat (max (sat (b - s.tat)) 0 * 64424 / 4294967296) by omega)
  omega
theorem sat_up {x y c : Int} (h : c ≤ x) (hy : 0 ≤ y) (hc : c ≤ 9223372036854775807) : c ≤ sat (x + y) := by unfold sat; omega
theorem dist_least (s : Srv) (at' : Int) (h1 : 0 ≤ s.disp) (h2 : 0 ≤ s.tdisp) (h3 : 0 ≤ s.tjit) : 10737418 ≤ s.dist at' := by
  unfold Srv.dist
  have h0 : 0 ≤ sat (max (sat (at' - s.tat)) 0 * 64424 / 4294967296) := by unfold sat; omega
  have hb : 10737418 ≤ sat (max (sat (s.delay + s.tdelay)) 21474836 / 2) := by unfold sat; omega
  exact sat_up (sat_up (sat_up (sat_up hb h1 (by decide)) h2 (by decide)) h0 (by decide)) h3 (by decide)
/-- is it fit? -/
def Srv.fit (s : Srv) (own near at' : Int) : Int :=
  if s.leap = 3 then 123 else if s.strat < 1 then 123 else if 15 < s.strat then 123 else
  if s.dist at' < near then (if s.ref = own then (if 1 < s.strat then 4 else if s.reg = 0 then 3 else 0) else if s.reg = 0 then 3 else 0) else 124
def rdNear (poll : Int) : Int := sat (6442450944 + sat (apN 3 4294967296 poll 0 * 64424 / 4294967296))
def fitT : Tree :=
(.node (.cmp .eql (.var 0) (.lit 3))
 (.leaf (.int .i64 (.lit 123)))
 (.node (.cmp .lss (.var 1) (.lit 1))
 (.leaf (.int .i64 (.lit 123)))
 (.node (.cmp .lss (.lit 15) (.var 1))
 (.leaf (.int .i64 (.lit 123)))
 (.node (.cmp .lss (.var 14) (.ap 1 (.lit 6442450944) (.ap 4 (.ap 3 (.lit 4294967296) (.var 12) (.lit 0)) (.lit 64424) (.lit 0)) (.lit 0)))
 (.node (.cmp .eql (.var 2) (.var 11))
 (.node (.cmp .lss (.lit 1) (.var 1))
 (.leaf (.int .i64 (.lit 4)))
 (.node (.cmp .eql (.var 10) (.lit 0))
 (.leaf (.int .i64 (.lit 3)))
 (.leaf (.int .i64 (.lit 0)))))
 (.node (.cmp .eql (.var 10) (.lit 0))
 (.leaf (.int .i64 (.lit 3)))
 (.leaf (.int .i64 (.lit 0)))))
 (.leaf (.int .i64 (.lit 124)))))))
theorem beq_dec (a b : Int) : (a == b) = decide (a = b) := rfl
theorem fit_any (s : Srv) (h : s.ok) (own poll at' : Int) (ho : 0 ≤ own ∧ own ≤ 4294967295) (hp : InI poll) (ha : InI at') (w : World) :
    Calls Try.prog 25 #[stdS.den (envOf []) id, s.val, .int .u32 own, .int .i64 poll, .int .i64 at'] w fun e w' => e = .returned (.int .i64 (s.fit own (rdNear poll) at')) ∧ Below w.heap.size w w' := by
  have hd := dist_in s at'
  refine law_any (bs := []) (fs := []) (is := s.is ++ [own, poll, at', s.dist at']) (rg := srvR ++ [(0, 4294967295), rdI, rdI, satR]) (args := [stdS, srvS, .int .u32 (.var 11), .int .i64 (.var 12), .int .i64 (.var 13)])
    ⟨h.leap, h.strat, h.ref, h.delay, h.disp, h.toff, h.tdelay, h.tdisp, h.tjit, h.tat, h.reg, ho, hp, ha, hd, trivial⟩ (cr := [(27, [stdS, srvS, .int .i64 (.var 13)], .int .i64 (.var 14))])
    (fun c hc => by rw [List.mem_singleton.1 hc]; exact fun φ w _ => dist_any s h at' ha w) fitT (n := 600) (by kernel_rfl) (Tree.whole_live (by kernel_rfl)) ?_ w
  simp only [fitT, Tree.val, BE.den, cmpI, SV.den, IE.den, Srv.is, List.cons_append, List.nil_append, List.getD_cons_zero, List.getD_cons_succ, beq_dec, Bool.cond_decide]
  unfold Srv.fit rdNear
  rw [← rd_ap4 (apN 3 4294967296 poll 0) 64424 0, ← rd_ap1 6442450944 (apN 4 (apN 3 4294967296 poll 0) 64424 0) 0]
  repeat' split
  all_goals rfl
end Go.Proofs.Ytopgidgkpafeeaa
