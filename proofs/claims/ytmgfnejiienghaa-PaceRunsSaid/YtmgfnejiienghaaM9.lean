/- The walks over package pace, with what is set as a rule. -/
import Derived.Test.YtmgfnejiienghaaM5
import Derived.Test.YtmgfnejiienghaaM8
import Derived.Test.YtmgfnejiienghaaM7
namespace Go.Proofs.Ytmgfnejiienghaa
open Go.RowKit Go.IntWalk
set_option linter.unusedVariables false
set_option maxRecDepth 100000

/-- what is set as a rule -/
abbrev stdP : Array Value := #[.int .i64 536870912, .int .i64 1288490188800, .int .i64 4294967296000, .int .i64 2147483, .int .i64 64424, .int .i64 6442450944, .int .i64 17179869184, .int .i64 6, .int .i64 10, .int .i64 0, .int .i64 1, .int .i64 3]
def clampI (n low high : Int) : Int := if n < low then low else if high < n then high else n
theorem clampI_in (n : Int) {low high : Int} (h : low ≤ high) : low ≤ clampI n low high ∧ clampI n low high ≤ high := by
  unfold clampI; split
  · omega
  · split <;> omega
set_option maxHeartbeats 400000 in
theorem heldn_any (n low high : Int) (w : World) :
    Calls Try.prog 104 #[.int .i64 n, .int .i64 low, .int .i64 high] w fun e w' => e = .returned (.int .i64 (clampI n low high)) ∧ w = w' := by
  by_cases h : n < low
  · have HC : Hid (clampI n low high = low) := Lib.hid (by simp [clampI, h])
    go_enter Try.func104, Try.ntmps104
    go_wp2_with fail
    go_ret
    exact ⟨ret_int HC.out.symm, rfl⟩
  · by_cases h' : high < n
    · have HC : Hid (clampI n low high = high) := Lib.hid (by simp [clampI, h, h'])
      go_enter Try.func104, Try.ntmps104
      go_wp2_with fail
      go_ret
      exact ⟨ret_int HC.out.symm, rfl⟩
    · have HC : Hid (clampI n low high = n) := Lib.hid (by simp [clampI, h, h'])
      go_enter Try.func104, Try.ntmps104
      go_wp2_with fail
      go_ret
      exact ⟨ret_int HC.out.symm, rfl⟩
theorem heap_alloc3_new (w : World) (A B C : Obj) : (((w.alloc A).alloc B).alloc C).drew.heap[w.heap.size + 1 + 1]? = some C := by
  have h := heap_alloc2_new (w.alloc A) B C
  rwa [show (w.alloc A).heap.size = w.heap.size + 1 by simp] at h
theorem pace_one (x c : Int) : (#[.int .i64 x, .int .i64 c] : Array Value).all (·.oneCell') = true := by simp [Value.oneCell']
set_option maxHeartbeats 1000000 in
theorem heldp_any (x c : Int) (w : World) :
    Calls Try.prog 53 #[.agg #[.int .i64 x, .int .i64 c], .agg stdP] w fun e w' => e = .returned (.agg #[.int .i64 (clampI x 6 10), .int .i64 (clampI c (-30) 30)]) ∧ Below w.heap.size w w' := by
  have H1 := Lib.hid (fun w => (heldn_any x 6 10 w).mono fun e w' h => (⟨h.1, h.2.symm⟩ : e = .returned (.int .i64 (clampI x 6 10)) ∧ w' = w))
  have H2 := Lib.hid (fun w => (heldn_any c (-30) 30 w).mono fun e w' h => (⟨h.1, h.2.symm⟩ : e = .returned (.int .i64 (clampI c (-30) 30)) ∧ w' = w))
  generalize clampI x 6 10 = x' at H1 ⊢
  generalize clampI c (-30) 30 = c' at H2 ⊢
  go_enter Try.func53, Try.ntmps53
  go_wp2_with fail
  refine wp_region_tail 11 (by kernel_rfl) (by kernel_rfl) ?_
  simp only [List.take_succ_cons, List.take_zero, List.drop_succ_cons, List.drop_zero]
  repeat still_step
  refine wpStill_step (fun K hK => ?_)
  go_simp
  refine ⟨_, H1.out _, hK _ ?_⟩
  clear hK K
  repeat still_step
  refine wpStill_step (fun K hK => ?_)
  go_simp
  refine ⟨_, H2.out _, hK _ ?_⟩
  clear hK K
  repeat still_step
  refine wpStill_nil ?_
  have HB : Hid (((((w.alloc (.cells #[.int .i64 x, .int .i64 c] 65)).alloc (.cells stdP 26)).alloc (.cells #[.int .i64 0, .int .i64 0] 65)).drew).heap[w.heap.size + 1 + 1]? = some (.cells #[.int .i64 0, .int .i64 0] 65 (0, 0))) := Lib.hid (heap_alloc3_new _ _ _ _)
  have BB : Below w.heap.size w ((((w.alloc (.cells #[.int .i64 x, .int .i64 c] 65)).alloc (.cells stdP 26)).alloc (.cells #[.int .i64 0, .int .i64 0] 65)).drew) := (balloc (balloc (balloc (Below.refl _ _) _) _) _).drew
  generalize ((((w.alloc (.cells #[.int .i64 x, .int .i64 c] 65)).alloc (.cells stdP 26)).alloc (.cells #[.int .i64 0, .int .i64 0] 65)).drew) = W at HB BB ⊢
  go_wp2_with (refine wpList_store_row rfl 65 (.tmp 4) (.tmp 15) rfl _ #[.int .i64 x', .int .i64 c'] rfl rfl _ _ HB.out (by kernel_rfl) rfl (pace_one _ _) ?_)
  exact bodyPost_ret (v := .agg #[.int .i64 x', .int .i64 c']) (results_cell_row rfl _ _ (w.heap.size + 1 + 1) _ _ _ _ rfl (setRow_heap _ _ _ _ _ _ HB.out) Try.underlying65 rfl (by kernel_rfl)) rfl ⟨rfl, below_setRow BB (by omega) _⟩
set_option maxHeartbeats 1000000 in
theorem start_any (w : World) :
    Calls Try.prog 52 #[.agg stdP] w fun e w' => e = .returned (.agg #[.int .i64 6, .int .i64 0]) ∧ Below w.heap.size w w' := by
  go_enter Try.func52, Try.ntmps52
  go_wp2_with fail
  exact bodyPost_ret (v := .agg #[.int .i64 6, .int .i64 0]) (results_cell_row rfl _ _ (w.heap.size + 1) _ _ _ _ rfl (heap_alloc2_new _ _ _) Try.underlying65 rfl (by kernel_rfl)) rfl ⟨rfl, balloc (balloc (Below.refl _ _) _) _⟩
def pQuiet (o j : Int) : Bool := decide (fAbs64 o < fMul j 17179869184)
set_option maxHeartbeats 1000000 in
theorem quiet_any (o j : Int) (o0 : -9223372036854775808 ≤ o) (o1 : o ≤ 9223372036854775807) (j0 : -9223372036854775808 ≤ j) (j1 : j ≤ 9223372036854775807) (w : World) :
    Calls Try.prog 32 #[.agg stdP, .int .i64 o, .int .i64 j] w fun e w' => e = .returned (.bool (pQuiet o j)) ∧ Below w.heap.size w w' := by
  have H1 := Lib.hid (fixmul_any j 17179869184 j0 j1 (by decide) (by decide))
  have H2 := Lib.hid (fixabs_any o o0 o1)
  have HQ : Hid (pQuiet o j = decide (fAbs64 o < fMul j 17179869184)) := Lib.hid rfl
  generalize fMul j 17179869184 = m at H1 HQ
  generalize fAbs64 o = n at H2 HQ
  go_enter Try.func32, Try.ntmps32
  go_wp2_with (first | (with_reducible refine (H1.out _).mono ?_; rintro e w1 ⟨rfl, hb1⟩) | (with_reducible refine (H2.out _).mono ?_; rintro e w1 ⟨rfl, rfl⟩))
  exact bodyPost_ret (v := .bool (decide (n < m))) (by simp [results, Try.results32, go_sem]) rfl ⟨ret_bool HQ.out.symm, bnext (balloc (Below.refl _ _) _) hb1⟩
theorem std_block {w w1 w2 : World} {c : Array Value} {t : TypeId} {o : Obj} (hb1 : Below (w.alloc (.cells c t)).heap.size (w.alloc (.cells c t)) w1) (hb2 : Below w1.heap.size w1 w2) : (w2.alloc o).heap[w.heap.size]? = some (.cells c t (0, 0)) := by
  have s0 : w.heap.size < (w.alloc (.cells c t)).heap.size := by simp
  have s1 := hb1.size
  have s2 := hb2.size
  rw [((Below.refl w2.heap.size w2).alloc (Nat.le_refl _) o).block _ (by omega), hb2.block _ (by omega), hb1.block _ s0]
  exact heap_alloc_new _ _
theorem stdp_one : stdP.all (·.oneCell') = true := by simp [stdP, Value.oneCell']
set_option maxHeartbeats 1000000 in
theorem standard20 (w : World) : Calls Try.prog 31 #[] w fun e w' => e = .returned (.agg stdP) ∧ Below w.heap.size w w' := by
  go_enter Try.func31, Try.ntmps31
  go_wp2_with (first
    | (with_reducible refine (standard_any _).mono ?_; rintro e w1 ⟨rfl, hb1⟩; rw [std_cells])
    | (with_reducible refine (check_any stdCfg std_ok _).mono ?_; rintro e w2 ⟨rfl, hb2⟩; rw [std_check])
    | (refine wpList_load_row rfl 26 (.tmp 1) rfl _ rfl 26 stdP (0, 0) _ ?hg1 Try.underlying26 rfl (by kernel_rfl) ?_; case hg1 => exact heap_alloc_new _ _)
    | (refine wpList_store_row rfl 26 (.tmp 0) (.tmp 10) rfl _ stdP rfl rfl 26 zero12 ?hg2 (by kernel_rfl) rfl stdp_one ?_; case hg2 => exact std_block hb1 hb2))
  have hB := std_block (o := .cells stdP 26) hb1 hb2
  exact bodyPost_ret (v := .agg stdP) (results_cell_row rfl _ _ w.heap.size _ _ _ _ rfl (setRow_heap _ _ _ _ _ _ hB) Try.underlying26 rfl (by kernel_rfl)) rfl ⟨rfl, below_setRow (balloc (bnext (bnext (balloc (Below.refl _ _) _) hb1) hb2) _) (Nat.le_refl _) _⟩
end Go.Proofs.Ytmgfnejiienghaa
