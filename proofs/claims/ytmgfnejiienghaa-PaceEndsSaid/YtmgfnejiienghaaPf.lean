/- The walk over the law PaceEnds: the loop, the end. -/
import Derived.Test.YtmgfnejiienghaaPe
namespace Go.Proofs.Ytmgfnejiienghaa
open Go.RowKit Go.IntWalk
set_option linter.unusedVariables false
set_option maxRecDepth 100000

theorem std_cells20 {W : World} {b : Nat} (h : W.heap[b]? = some (.cells stdP 26 (0, 0))) : True
    ∧ (∀ d os, (Sort.grow (redrawn W d) os).cell? ⟨b, 0, none⟩ = some (.int .i64 536870912))
    ∧ (∀ d os, (Sort.grow (redrawn W d) os).cell? ⟨b, 1, none⟩ = some (.int .i64 1288490188800))
    ∧ (∀ d os, (Sort.grow (redrawn W d) os).cell? ⟨b, 2, none⟩ = some (.int .i64 4294967296000))
    ∧ (∀ d os, (Sort.grow (redrawn W d) os).cell? ⟨b, 3, none⟩ = some (.int .i64 2147483))
    ∧ (∀ d os, (Sort.grow (redrawn W d) os).cell? ⟨b, 4, none⟩ = some (.int .i64 64424))
    ∧ (∀ d os, (Sort.grow (redrawn W d) os).cell? ⟨b, 5, none⟩ = some (.int .i64 6442450944))
    ∧ (∀ d os, (Sort.grow (redrawn W d) os).cell? ⟨b, 6, none⟩ = some (.int .i64 17179869184))
    ∧ (∀ d os, (Sort.grow (redrawn W d) os).cell? ⟨b, 7, none⟩ = some (.int .i64 6))
    ∧ (∀ d os, (Sort.grow (redrawn W d) os).cell? ⟨b, 8, none⟩ = some (.int .i64 10))
    ∧ (∀ d os, (Sort.grow (redrawn W d) os).cell? ⟨b, 9, none⟩ = some (.int .i64 0))
    ∧ (∀ d os, (Sort.grow (redrawn W d) os).cell? ⟨b, 10, none⟩ = some (.int .i64 1))
    ∧ (∀ d os, (Sort.grow (redrawn W d) os).cell? ⟨b, 11, none⟩ = some (.int .i64 3)) :=
  ⟨trivial, fun d os => cell_regrown (cell_of_heap' (o := 0) h rfl) d os, fun d os => cell_regrown (cell_of_heap' (o := 1) h rfl) d os, fun d os => cell_regrown (cell_of_heap' (o := 2) h rfl) d os, fun d os => cell_regrown (cell_of_heap' (o := 3) h rfl) d os, fun d os => cell_regrown (cell_of_heap' (o := 4) h rfl) d os, fun d os => cell_regrown (cell_of_heap' (o := 5) h rfl) d os, fun d os => cell_regrown (cell_of_heap' (o := 6) h rfl) d os, fun d os => cell_regrown (cell_of_heap' (o := 7) h rfl) d os, fun d os => cell_regrown (cell_of_heap' (o := 8) h rfl) d os, fun d os => cell_regrown (cell_of_heap' (o := 9) h rfl) d os, fun d os => cell_regrown (cell_of_heap' (o := 10) h rfl) d os, fun d os => cell_regrown (cell_of_heap' (o := 11) h rfl) d os⟩
set_option maxHeartbeats 2000000 in
theorem ends_walk (a c m : Int) (a0 : 0 ≤ a) (a1 : a ≤ 255) (c0 : -128 ≤ c) (c1 : c ≤ 127) (m0 : 0 ≤ m) (m1 : m ≤ 255) (w : World) :
    Calls Try.prog 11 #[.int .u8 a, .int .i8 c, .int .u8 m] w fun e w' => e = .returned (.bool true) ∧ Below w.heap.size w w' := by
  obtain ⟨n, rfl⟩ : ∃ n : Nat, m = n := ⟨m.toNat, by omega⟩
  obtain ⟨i0, hi, hz0, hz1, hz2⟩ := info_parts info_bool
  go_enter Try.func11, Try.ntmps11
  go_wp2_with (first | (with_reducible refine (standard20 _).mono ?_; rintro e w1 ⟨rfl, hb1⟩))
  obtain ⟨x, hx⟩ : ∃ x, 6 + a % 5 = x := ⟨_, rfl⟩
  rw [hx]
  obtain ⟨W, HW⟩ : ∃ W, (((w1.alloc (.cells stdP 26)).alloc (.cells #[.int .i64 x, .int .i64 c] 65)).alloc (.cells #[] 4)).alloc (.cells #[] 4) = W := ⟨_, rfl⟩
  have hs4 : W.heap.size = w1.heap.size + 4 := by rw [← HW]; simp
  have k3 := (Below.refl _ (((w1.alloc (.cells stdP 26)).alloc (.cells #[.int .i64 x, .int .i64 c] 65)).alloc (.cells #[] 4))).alloc (Nat.le_refl _) (.cells #[] 4)
  have k2 := (Below.refl _ ((w1.alloc (.cells stdP 26)).alloc (.cells #[.int .i64 x, .int .i64 c] 65))).alloc (Nat.le_refl _) (.cells #[] 4)
  have k1 := (Below.refl _ (w1.alloc (.cells stdP 26))).alloc (Nat.le_refl _) (.cells #[.int .i64 x, .int .i64 c] 65)
  have B0 : W.heap[w1.heap.size]? = some (.cells stdP 26 (0, 0)) := by
    rw [← HW, k3.block _ (by simp <;> omega), k2.block _ (by simp <;> omega), k1.block _ (by simp)]; exact heap_alloc_new _ _
  have B1 : W.heap[w1.heap.size + 1]? = some (.cells #[.int .i64 x, .int .i64 c] 65 (0, 0)) := by
    rw [← HW, k3.block _ (by simp <;> omega), k2.block _ (by simp)]; exact heap_alloc2_new _ _ _
  have B2 : W.heap[w1.heap.size + 1 + 1]? = some (.cells #[] 4 (0, 0)) := by
    rw [← HW, k3.block _ (by simp)]
    have h := heap_alloc2_new (w1.alloc (.cells stdP 26)) (.cells #[.int .i64 x, .int .i64 c] 65) (.cells #[] 4)
    rwa [show (w1.alloc (.cells stdP 26)).heap.size = w1.heap.size + 1 by simp] at h
  have B3 : W.heap[w1.heap.size + 1 + 1 + 1]? = some (.cells #[] 4 (0, 0)) := by
    rw [← HW]
    have h := heap_alloc2_new ((w1.alloc (.cells stdP 26)).alloc (.cells #[.int .i64 x, .int .i64 c] 65)) (.cells #[] 4) (.cells #[] 4)
    rwa [show ((w1.alloc (.cells stdP 26)).alloc (.cells #[.int .i64 x, .int .i64 c] 65)).heap.size = w1.heap.size + 1 + 1 by simp] at h
  have BW : Below w.heap.size w W := by rw [← HW]; exact bnext hb1 (balloc (balloc (balloc (balloc (Below.refl _ _) _) _) _) _)
  rw [HW]
  have hle : w.heap.size ≤ w1.heap.size := hb1.size
  have h0 : TwoB (w1.heap.size + 2) 0 (.slice (some ⟨w1.heap.size + 1 + 1, 0, none⟩) 0 0) (.slice (some ⟨w1.heap.size + 1 + 1 + 1, 0, none⟩) 0 0) W W :=
    ⟨⟨rfl, .inr ⟨w1.heap.size + 1 + 1, 0, #[], rfl, by omega, B2, Nat.le_refl _, by decide, rfl, rfl⟩⟩, ⟨rfl, .inr ⟨w1.heap.size + 1 + 1 + 1, 0, #[], rfl, by omega, B3, Nat.le_refl _, by decide, rfl, rfl⟩⟩, ⟨w1.heap.size + 1 + 1, w1.heap.size + 1 + 1 + 1, rfl, rfl, by omega⟩, Below.refl _ _, by omega⟩
  clear HW k1 k2 k3 B2 B3
  go_loopw [9, 10, 11] (fun v x i wr => ∃ k : Nat, k ≤ 60 + n ∧ i = .int .i64 k ∧ TwoB (w1.heap.size + 2) k v x W wr) (fun _ _ i _ => 60 + n - (intOf i).toNat)
  case atStart => exact ⟨0, by omega, rfl, h0⟩
  case round =>
    clear h0
    obtain ⟨k, hk, rfl, h⟩ := hrel
    by_cases hlt : k < 60 + n
    · have HB := Lib.hid (fun b => (List.replicate_succ' (n := k) (a := (b : Bool))))
      obtain ⟨g, g', hg, hg', hgg⟩ := h.ne
      have hl1 := h.le
      have hown1 := h.q
      have hown2 := h.l
      have hbb := h.b
      have gl := hown1.lt g hg
      have gl' := hown2.lt g' hg'
      clear h
      go_wp2_with (at_builtin; refine wpList_append_lies _ rfl _ _ 66 rfl (w1.heap.size + 2) 4 i0 (.bool false) 1 1 Try.underlying66 hi hz0 hz1 hz2 rfl (by decide) _ _ _ rfl (hown1.alloc _) ⟨wr.heap.size, 0, none⟩ 1 1 [.bool true] rfl rfl ?c1 ?c2 ?c3 ?c4 ?c5 ?c6 _ rfl ?_)
      case c1 => exact cell_one_new _ _ _
      case c2 => simp [Value.oneCell']
      case c3 => decide
      case c4 => unfold maxLen; omega
      case c5 => omega
      case c6 => simp; omega
      intro q1 cap1 w2 hq1 hgrow hlies hqlt
      have hx2 := (hown2.alloc (.cells #[.bool true] 4)).kept hgrow (.inr (by simp only [hg']; simpa using fun e => hgg e.symm))
      have hbb2 := below_grown (hbb.alloc hl1 (.cells #[.bool true] 4)) hgrow (fun j hj => by (try rw [hg] at hj); cases hj; exact gl.1) (by simp; omega)
      have hne2 : q1 ≠ g' := by
        rcases hlies with e | e
        · have e' : g = q1 := by simpa [hg] using e
          omega
        · have e' : q1 = wr.heap.size + 1 := by simpa using e
          omega
      have hl2 : w1.heap.size + 2 ≤ w2.heap.size := by have := hgrow.size; simp at this; omega
      have gl2 := hx2.lt g' hg'
      have gq2 := hq1.lt q1 rfl
      have hq2 : w2.ownsRow (w1.heap.size + 2) 4 1 (.slice (some ⟨q1, 0, none⟩) (k + 1) cap1) (k + 1) ((List.replicate (k + 1) true).map Value.bool) := by
        rw [HB.out, List.map_append, List.map_replicate]; exact hq1
      clear hown1 hown2 hgrow hlies hbb hgg hq1
      go_wp2_with (at_builtin; refine wpList_append_lies _ rfl _ _ 66 rfl (w1.heap.size + 2) 4 i0 (.bool false) 1 1 Try.underlying66 hi hz0 hz1 hz2 rfl (by decide) _ _ _ rfl (hx2.alloc _) ⟨w2.heap.size, 0, none⟩ 1 1 [.bool false] rfl rfl ?d1 ?d2 ?d3 ?d4 ?d5 ?d6 _ rfl ?_)
      case d1 => exact cell_one_new _ _ _
      case d2 => simp [Value.oneCell']
      case d3 => decide
      case d4 => unfold maxLen; omega
      case d5 => omega
      case d6 => simp; omega
      intro x1 cap2 w3 hx1 hgrow hlies hxlt
      have hq3 := (hq2.alloc (.cells #[.bool false] 4)).kept hgrow (.inr (by simp only [Value.ownBlock]; simpa using hne2))
      have hbb3 := below_grown (hbb2.alloc hl2 (.cells #[.bool false] 4)) hgrow (fun j hj => by (try rw [hg'] at hj); cases hj; exact gl2.1) (by simp; omega)
      have hne3 : q1 ≠ x1 := by
        rcases hlies with e | e
        · have e' : g' = x1 := by simpa [hg'] using e
          omega
        · have e' : x1 = w2.heap.size + 1 := by simpa using e
          omega
      have hl3 : w1.heap.size + 2 ≤ w3.heap.size := by have := hgrow.size; simp at this; omega
      have hx3 : w3.ownsRow (w1.heap.size + 2) 4 1 (.slice (some ⟨x1, 0, none⟩) (k + 1) cap2) (k + 1) ((List.replicate (k + 1) false).map Value.bool) := by
        rw [HB.out, List.map_append, List.map_replicate]; exact hx1
      clear hx2 hgrow hlies hbb2 hq2 hx1
      have h3 : TwoB (w1.heap.size + 2) (k + 1) (.slice (some ⟨q1, 0, none⟩) (k + 1) cap1) (.slice (some ⟨x1, 0, none⟩) (k + 1) cap2) W w3 := ⟨hq3, hx3, ⟨_, _, rfl, rfl, hne3⟩, hbb3, hl3⟩
      clear hq3 hx3 hbb3
      go_wp2_with fail
      go_roundw
      case rel => exact ⟨k + 1, by omega, by go_num, h3⟩
      case measure => simp [intOf]; omega
    · obtain rfl : k = 60 + n := by omega
      have hB := h.b
      have C0 : wr.heap[w1.heap.size]? = some (.cells stdP 26 (0, 0)) := by rw [hB.block _ (by omega)]; exact B0
      have C1 : wr.heap[w1.heap.size + 1]? = some (.cells #[.int .i64 x, .int .i64 c] 65 (0, 0)) := by rw [hB.block _ (by omega)]; exact B1
      have hbq := owned_blow h.q
      have hbx := owned_blow h.l
      have bw : Below w.heap.size w wr := BW.trans (hB.mono (by omega))
      have eu := ends_up x c n
      have ed := ends_down x c n
      have HU : Hid (∀ d os, Calls Try.prog 34 #[.agg stdP, .agg #[.int .i64 x, .int .i64 c], u9] (Sort.grow (redrawn wr d) os) fun e w' => e = .returned (.agg #[.int .i64 10, .int .i64 (pRun x c (List.replicate (60 + n) true)).2]) ∧ Below (Sort.grow (redrawn wr d) os).heap.size (Sort.grow (redrawn wr d) os) w') := Lib.hid fun d os => by
        have h := run_any x c _ _ _ (hbq.grown d os)
        rwa [eu] at h
      have HD : Hid (∀ d os, Calls Try.prog 34 #[.agg stdP, .agg #[.int .i64 x, .int .i64 c], u10] (Sort.grow (redrawn wr d) os) fun e w' => e = .returned (.agg #[.int .i64 6, .int .i64 (pRun x c (List.replicate (60 + n) false)).2]) ∧ Below (Sort.grow (redrawn wr d) os).heap.size (Sort.grow (redrawn wr d) os) w') := Lib.hid fun d os => by
        have h := run_any x c _ _ _ (hbx.grown d os)
        rwa [ed] at h
      generalize (pRun x c (List.replicate (60 + n) true)).2 = z1 at HU
      generalize (pRun x c (List.replicate (60 + n) false)).2 = z2 at HD
      obtain ⟨_, r0, r1, r2, r3, r4, r5, r6, r7, r8, r9, r10, r11⟩ := std_cells20 C0
      have p0 : ∀ d os, (Sort.grow (redrawn wr d) os).cell? ⟨w1.heap.size + 1, 0, none⟩ = some (.int .i64 x) := fun d os => cell_regrown (cell_of_heap' (o := 0) C1 rfl) d os
      have p1 : ∀ d os, (Sort.grow (redrawn wr d) os).cell? ⟨w1.heap.size + 1, 1, none⟩ = some (.int .i64 c) := fun d os => cell_regrown (cell_of_heap' (o := 1) C1 rfl) d os
      have f1 : ∀ w : World, (Instr.field 65 (.agg #[.int .i64 10, .int .i64 z1]) 0).run Try.prog w = .ok (.int .i64 10) w := fun _ => by kernel_rfl
      have f2 : ∀ w : World, (Instr.field 65 (.agg #[.int .i64 6, .int .i64 z2]) 0).run Try.prog w = .ok (.int .i64 6) w := fun _ => by kernel_rfl
      clear h hB C0 C1 hbq hbx eu ed B0 B1 BW
      go_wp2_with fail
      refine wp_region_quiet_below (by kernel_rfl) (by kernel_rfl) ?_
      repeat (quiet_step (first | (with_reducible refine Calls.regrown_of (HU.out _ _)) | (with_reducible refine Calls.regrown_of (HD.out _ _)) | (with_reducible refine Calls.regrown_of (shown20 _))))
      refine wpQuiet_nil ?_
      rintro _ ⟨p, rfl⟩
      have hb2 := bnext bw (below_regrown wr p.d p.os)
      generalize Sort.grow (redrawn wr p.d) p.os = W2 at hb2 ⊢
      clear r0 r1 r2 r3 r4 r5 r6 r7 r8 r9 r10 r11 p0 p1 f1 f2
      go_wp2_with fail
      go_ret
      exact ⟨ret_bool (by simp), hb2⟩
end Go.Proofs.Ytmgfnejiienghaa
