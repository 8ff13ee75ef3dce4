/- The walk over setup.Faults. -/
import Derived.Test.YtmgfnejiienghaaSh
namespace Go.Proofs.Ytmgfnejiienghaa
open Go.RowKit
set_option linter.unusedVariables false
set_option maxRecDepth 100000

/-- the numbers of the faults among the first k -/
def Cfg.bads (c : Cfg) (k : Nat) : List Int := ((List.range k).filter (fun i : Nat => c.err i != 0)).map (fun i : Nat => Int.ofNat i)
theorem Cfg.bads_succ_bad (c : Cfg) (k : Nat) (h : (c.err k != 0) = true) : c.bads (k + 1) = c.bads k ++ [(k : Int)] := by
  simp only [Cfg.bads, List.range_succ, List.filter_append, List.map_append]
  simp [List.filter, h]
theorem Cfg.bads_succ_good (c : Cfg) (k : Nat) (h : (c.err k != 0) = false) : c.bads (k + 1) = c.bads k := by
  simp only [Cfg.bads, List.range_succ, List.filter_append, List.map_append]
  simp [List.filter, h]
theorem Cfg.bads_len (c : Cfg) (k : Nat) : (c.bads k).length ≤ k := by
  unfold Cfg.bads
  rw [List.length_map]
  exact Nat.le_trans (List.length_filter_le _ _) (by simp)
theorem info_int : (Try.prog.info? 3).map (fun i => (i.zero, i.size, i.bytes)) = some (some (.int .i64 0), 1, 8) := by kernel_rfl

set_option maxHeartbeats 4000000 in
theorem faults_list (c : Cfg) (hc : c.ok) (w : World) : Calls Try.prog 23 #[.agg c.cells] w fun e w' => ∃ v, e = .returned v ∧ w'.ownsRow w.heap.size 3 1 v (c.bads 13).length ((c.bads 13).map (Value.int .i64)) ∧ Below w.heap.size w w' := by
  obtain ⟨i0, hi, hz0, hz1, hz2⟩ := info_parts info_int
  go_enter Try.func23, Try.ntmps23
  go_wp2_with (first
    | (refine wpList_load_row rfl 24 (.tmp 1) rfl _ rfl 24 c.cells (0, 0) _ ?hg1 Try.underlying24 rfl (by kernel_rfl) ?_; case hg1 => exact heap_alloc_new _ _)
    | (refine wpList_load_row rfl 86 (.tmp 5) rfl _ rfl 86 c.errs (0, 0) _ ?hgz Try.underlying86 rfl (by kernel_rfl) ?_; case hgz => exact heap_alloc2_new _ _ _)
    | (with_reducible refine (faults_any c hc _).mono ?_; rintro e W1 ⟨rfl, hb1⟩; have st1 := fun o => store_first (P := Try.prog) W1 zero12 c.set 26 o rfl (set_one c); have st2 := fun a => store_last (P := Try.prog) W1 a zero13 c.errs 86 rfl (errs_one c); simp only [zero12, zero13] at st1 st2))
  have hz := hb1.size
  simp only [World.size_alloc] at hz
  have f3 : Below w.heap.size w ((W1.alloc (.cells c.set 26)).alloc (.cells c.errs 86)) :=
    (((((Below.refl _ _).alloc (Nat.le_refl _) _).trans (hb1.mono (by simp only [World.size_alloc]; omega))).alloc (by omega) _).alloc (by simp only [World.size_alloc]; omega) _)
  generalize (W1.alloc (.cells c.set 26)).alloc (.cells c.errs 86) = W3 at f3 ⊢
  clear st1 st2 hb1 hz
  go_loopw [3, 6, 7, 14] (fun v x y i wr => ∃ k : Nat, k ≤ 13 ∧ i = .int .i64 k ∧ wr.ownsRow w.heap.size 3 1 v (c.bads k).length ((c.bads k).map (Value.int .i64)) ∧ Below w.heap.size w wr) (fun _ _ _ i _ => 13 - (intOf i).toNat)
  case atStart => exact ⟨0, by omega, rfl, ⟨rfl, .inl ⟨rfl, rfl⟩⟩, f3⟩
  case round =>
    obtain ⟨k, hk, rfl, hown, hb⟩ := hrel
    by_cases hlt : k < 13
    · have hix := idx c k hlt
      have hl := c.bads_len k
      have hbs := hb.size
      by_cases he : (c.err k != 0) = true
      · have HB := Lib.hid (c.bads_succ_bad k he)
        go_wp2_with (at_builtin; refine wpList_append_own _ rfl _ _ 37 rfl w.heap.size 3 i0 (.int .i64 0) 1 8 Try.underlying37 hi hz0 hz1 hz2 rfl (by decide) _ _ _ rfl (hown.alloc _) ⟨wr.heap.size, 0, none⟩ 1 1 [.int .i64 k] rfl rfl ?c1 ?c2 ?c3 ?c4 ?c5 ?_)
        case c1 => exact cell_one_new _ _ _
        case c2 => simp [Value.oneCell']
        case c3 => unfold maxLen; omega
        case c4 => omega
        case c5 => simp; omega
        intro v' w1 hown1 hgrow _
        have hb1 : Below w.heap.size w w1 := (hb.alloc hbs _).grown hgrow (by simp; omega) (fun j hj => by have := (hown.lt j hj).1; omega)
        have hown2 : w1.ownsRow w.heap.size 3 1 v' (c.bads (k + 1)).length ((c.bads (k + 1)).map (Value.int .i64)) := by
          rw [HB.out, List.map_append, List.length_append]; exact hown1
        clear hown1 hgrow hown hb
        go_wp2_with fail
        go_roundw
        case rel => exact ⟨k + 1, by omega, by go_num, hown2, hb1⟩
        case measure => simp [intOf]; omega
      · have he' : (c.err k != 0) = false := by simpa using he
        have HB := Lib.hid (c.bads_succ_good k he')
        clear he
        go_wp2_with fail
        go_roundw
        case rel => exact ⟨k + 1, by omega, by go_num, by rw [HB.out]; exact hown, hb⟩
        case measure => simp [intOf]; omega
    · obtain rfl : k = 13 := by omega
      go_wp2_with fail
      go_ret
      exact ⟨_, rfl, hown, hb⟩
end Go.Proofs.Ytmgfnejiienghaa
