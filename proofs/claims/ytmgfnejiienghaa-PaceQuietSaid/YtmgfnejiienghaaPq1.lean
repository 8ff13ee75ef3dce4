/- The walk over the law PaceQuiet. -/
import Derived.Test.YtmgfnejiienghaaPn
namespace Go.Proofs.Ytmgfnejiienghaa
open Go.RowKit Go.IntWalk
set_option linter.unusedVariables false
set_option maxRecDepth 100000

theorem fMul_gate {f : Int} (h0 : 0 ≤ f) (h1 : f ≤ 4294967295) : fMul f 17179869184 = 4 * f := by
  have e1 : fSize f = f := if_neg (by omega)
  have e2 : fSize 17179869184 = 17179869184 := by decide
  unfold fMul
  rw [e1, e2, if_neg (by omega)]
  have d1 : decide (f < 0) = false := decide_eq_false (by omega)
  have d2 : decide ((17179869184 : Int) < 0) = false := by decide
  rw [d1, d2]
  simp only [fCut, bne_self_eq_false, Bool.false_eq_true, if_false]
  omega
theorem pQuiet_eq {o f : Int} (h0 : 0 ≤ f) (h1 : f ≤ 4294967295) : pQuiet o f = decide (fAbs64 o < 4 * f) := by
  unfold pQuiet; rw [fMul_gate h0 h1]
theorem pQuiet_nought {f : Int} (h0 : 0 ≤ f) (h1 : f ≤ 4294967295) : pQuiet 0 f = decide (0 < f) := by
  rw [pQuiet_eq h0 h1, show fAbs64 0 = 0 by decide]
  by_cases h : 0 < f
  · rw [decide_eq_true h, decide_eq_true (by omega)]
  · rw [decide_eq_false h, decide_eq_false (by omega)]
theorem fAbs64_pos (o : Int) : 0 ≤ fAbs64 o := by
  unfold fAbs64 fCut fSize; simp only [Bool.false_eq_true, if_false]; split <;> omega
theorem pQuiet_still (o : Int) : pQuiet o 0 = false := by
  rw [pQuiet_eq (by decide) (by decide)]
  have := fAbs64_pos o
  exact decide_eq_false (by omega)
theorem pQuiet_more {o f m : Int} (h0 : 0 ≤ f) (hm : f ≤ m) (h1 : m ≤ 4294967295) (h : pQuiet o f = true) : pQuiet o m = true := by
  rw [pQuiet_eq h0 (by omega)] at h
  rw [pQuiet_eq (by omega) h1]
  have := of_decide_eq_true h
  exact decide_eq_true (by omega)
theorem pQuiet_neg {o f : Int} (hf0 : 0 ≤ f) (hf1 : f ≤ 4294967295) (h1 : o ≤ 9223372036854775807) (h0 : ¬ o < -9223372036854775807) : pQuiet (-o) f = pQuiet o f := by
  rw [pQuiet_eq hf0 hf1, pQuiet_eq hf0 hf1]
  have : fAbs64 (-o) = fAbs64 o := by
    unfold fAbs64 fCut fSize; simp only [Bool.false_eq_true, if_false]; split <;> split <;> omega
  rw [this]
theorem pQuiet_low {f : Int} (hf0 : 0 ≤ f) (hf1 : f ≤ 4294967295) : pQuiet 9223372036854775807 f = pQuiet (-9223372036854775808) f := by
  rw [pQuiet_eq hf0 hf1, pQuiet_eq hf0 hf1, show fAbs64 9223372036854775807 = fAbs64 (-9223372036854775808) by decide]
theorem std_row (w1 : World) : ∃ W, Hid (w1.alloc (.cells stdP 26) = W) ∧ Below w1.heap.size w1 W
    ∧ (∀ d os, (Sort.grow (redrawn W d) os).cell? ⟨w1.heap.size, 0, none⟩ = some (.int .i64 536870912))
    ∧ (∀ d os, (Sort.grow (redrawn W d) os).cell? ⟨w1.heap.size, 1, none⟩ = some (.int .i64 1288490188800))
    ∧ (∀ d os, (Sort.grow (redrawn W d) os).cell? ⟨w1.heap.size, 2, none⟩ = some (.int .i64 4294967296000))
    ∧ (∀ d os, (Sort.grow (redrawn W d) os).cell? ⟨w1.heap.size, 3, none⟩ = some (.int .i64 2147483))
    ∧ (∀ d os, (Sort.grow (redrawn W d) os).cell? ⟨w1.heap.size, 4, none⟩ = some (.int .i64 64424))
    ∧ (∀ d os, (Sort.grow (redrawn W d) os).cell? ⟨w1.heap.size, 5, none⟩ = some (.int .i64 6442450944))
    ∧ (∀ d os, (Sort.grow (redrawn W d) os).cell? ⟨w1.heap.size, 6, none⟩ = some (.int .i64 17179869184))
    ∧ (∀ d os, (Sort.grow (redrawn W d) os).cell? ⟨w1.heap.size, 7, none⟩ = some (.int .i64 6))
    ∧ (∀ d os, (Sort.grow (redrawn W d) os).cell? ⟨w1.heap.size, 8, none⟩ = some (.int .i64 10))
    ∧ (∀ d os, (Sort.grow (redrawn W d) os).cell? ⟨w1.heap.size, 9, none⟩ = some (.int .i64 0))
    ∧ (∀ d os, (Sort.grow (redrawn W d) os).cell? ⟨w1.heap.size, 10, none⟩ = some (.int .i64 1))
    ∧ (∀ d os, (Sort.grow (redrawn W d) os).cell? ⟨w1.heap.size, 11, none⟩ = some (.int .i64 3)) :=
  ⟨_, Lib.hid rfl, (Below.refl _ _).alloc (Nat.le_refl _) _, fun d os => cell_regrown (cell_of_heap' (o := 0) (heap_alloc_new _ _) rfl) d os, fun d os => cell_regrown (cell_of_heap' (o := 1) (heap_alloc_new _ _) rfl) d os, fun d os => cell_regrown (cell_of_heap' (o := 2) (heap_alloc_new _ _) rfl) d os, fun d os => cell_regrown (cell_of_heap' (o := 3) (heap_alloc_new _ _) rfl) d os, fun d os => cell_regrown (cell_of_heap' (o := 4) (heap_alloc_new _ _) rfl) d os, fun d os => cell_regrown (cell_of_heap' (o := 5) (heap_alloc_new _ _) rfl) d os, fun d os => cell_regrown (cell_of_heap' (o := 6) (heap_alloc_new _ _) rfl) d os, fun d os => cell_regrown (cell_of_heap' (o := 7) (heap_alloc_new _ _) rfl) d os, fun d os => cell_regrown (cell_of_heap' (o := 8) (heap_alloc_new _ _) rfl) d os, fun d os => cell_regrown (cell_of_heap' (o := 9) (heap_alloc_new _ _) rfl) d os, fun d os => cell_regrown (cell_of_heap' (o := 10) (heap_alloc_new _ _) rfl) d os, fun d os => cell_regrown (cell_of_heap' (o := 11) (heap_alloc_new _ _) rfl) d os⟩
set_option maxHeartbeats 2000000 in
theorem paceq_000 (o a b : Int) (r : Bool) (hab : a < b) (hn : o < -9223372036854775807) (H0 : Hid (∀ w, Calls Try.prog 32 #[.agg stdP, .int .i64 0, .int .i64 a] w fun e w' => e = .returned (.bool (decide (0 < a))) ∧ Below w.heap.size w w')) (H1 : Hid (∀ w, Calls Try.prog 32 #[.agg stdP, .int .i64 o, .int .i64 a] w fun e w' => e = .returned (.bool true) ∧ Below w.heap.size w w')) (H2 : Hid (∀ w, Calls Try.prog 32 #[.agg stdP, .int .i64 o, .int .i64 b] w fun e w' => e = .returned (.bool true) ∧ Below w.heap.size w w')) (H3 : Hid (∀ w, Calls Try.prog 32 #[.agg stdP, .int .i64 o, .int .i64 0] w fun e w' => e = .returned (.bool false) ∧ Below w.heap.size w w')) (H4 : Hid (∀ w, Calls Try.prog 32 #[.agg stdP, .int .i64 9223372036854775807, .int .i64 a] w fun e w' => e = .returned (.bool true) ∧ Below w.heap.size w w')) (o0 : -9223372036854775808 ≤ o) (o1 : o ≤ 9223372036854775807) (a0 : 0 ≤ a) (a1 : a ≤ 4294967295) (b0 : 0 ≤ b) (b1 : b ≤ 4294967295) (w : World) :
    Calls Try.prog 10 #[.int .i64 o, .int .u32 a, .int .u32 b] w fun e w' => e = .returned (.bool true) ∧ Below w.heap.size w w' := by
  have hw1 := i64_in 9223372036854775807 (by decide)
  go_enter Try.func10, Try.ntmps10
  go_wp2_with (first | (with_reducible refine (standard20 _).mono ?_; rintro e w1 ⟨rfl, hb1⟩))
  obtain ⟨W, HW, hbW, r0, r1, r2, r3, r4, r5, r6, r7, r8, r9, r10, r11⟩ := std_row w1
  rw [HW.out]
  refine wp_region_quiet_below (by kernel_rfl) (by kernel_rfl) ?_
  repeat (quiet_step (first | (with_reducible refine Calls.regrown_of (H0.out _)) | (with_reducible refine Calls.regrown_of (H1.out _)) | (with_reducible refine Calls.regrown_of (H2.out _)) | (with_reducible refine Calls.regrown_of (H3.out _)) | (with_reducible refine Calls.regrown_of (H4.out _)) | (with_reducible refine Calls.regrown_of (shown20 _))))
  refine wpQuiet_nil ?_
  rintro _ ⟨p, rfl⟩
  have hb2 := bnext (bnext hb1 hbW) (below_regrown W p.d p.os)
  generalize Sort.grow (redrawn W p.d) p.os = W2 at hb2 ⊢
  clear r0 r1 r2 r3 r4 r5 r6 r7 r8 r9 r10 r11 HW hbW
  go_wp2_with fail
  all_goals go_ret
  all_goals exact ⟨ret_bool (by simp), hb2⟩
set_option maxHeartbeats 2000000 in
theorem paceq_001 (o a b : Int) (r : Bool) (hab : a < b) (hn : o < -9223372036854775807) (H0 : Hid (∀ w, Calls Try.prog 32 #[.agg stdP, .int .i64 0, .int .i64 a] w fun e w' => e = .returned (.bool (decide (0 < a))) ∧ Below w.heap.size w w')) (H1 : Hid (∀ w, Calls Try.prog 32 #[.agg stdP, .int .i64 o, .int .i64 a] w fun e w' => e = .returned (.bool false) ∧ Below w.heap.size w w')) (H2 : Hid (∀ w, Calls Try.prog 32 #[.agg stdP, .int .i64 o, .int .i64 b] w fun e w' => e = .returned (.bool r) ∧ Below w.heap.size w w')) (H3 : Hid (∀ w, Calls Try.prog 32 #[.agg stdP, .int .i64 o, .int .i64 0] w fun e w' => e = .returned (.bool false) ∧ Below w.heap.size w w')) (H4 : Hid (∀ w, Calls Try.prog 32 #[.agg stdP, .int .i64 9223372036854775807, .int .i64 a] w fun e w' => e = .returned (.bool false) ∧ Below w.heap.size w w')) (o0 : -9223372036854775808 ≤ o) (o1 : o ≤ 9223372036854775807) (a0 : 0 ≤ a) (a1 : a ≤ 4294967295) (b0 : 0 ≤ b) (b1 : b ≤ 4294967295) (w : World) :
    Calls Try.prog 10 #[.int .i64 o, .int .u32 a, .int .u32 b] w fun e w' => e = .returned (.bool true) ∧ Below w.heap.size w w' := by
  have hw1 := i64_in 9223372036854775807 (by decide)
  go_enter Try.func10, Try.ntmps10
  go_wp2_with (first | (with_reducible refine (standard20 _).mono ?_; rintro e w1 ⟨rfl, hb1⟩))
  obtain ⟨W, HW, hbW, r0, r1, r2, r3, r4, r5, r6, r7, r8, r9, r10, r11⟩ := std_row w1
  rw [HW.out]
  refine wp_region_quiet_below (by kernel_rfl) (by kernel_rfl) ?_
  repeat (quiet_step (first | (with_reducible refine Calls.regrown_of (H0.out _)) | (with_reducible refine Calls.regrown_of (H1.out _)) | (with_reducible refine Calls.regrown_of (H2.out _)) | (with_reducible refine Calls.regrown_of (H3.out _)) | (with_reducible refine Calls.regrown_of (H4.out _)) | (with_reducible refine Calls.regrown_of (shown20 _))))
  refine wpQuiet_nil ?_
  rintro _ ⟨p, rfl⟩
  have hb2 := bnext (bnext hb1 hbW) (below_regrown W p.d p.os)
  generalize Sort.grow (redrawn W p.d) p.os = W2 at hb2 ⊢
  clear r0 r1 r2 r3 r4 r5 r6 r7 r8 r9 r10 r11 HW hbW
  go_wp2_with fail
  all_goals go_ret
  all_goals exact ⟨ret_bool (by simp), hb2⟩
set_option maxHeartbeats 2000000 in
theorem paceq_010 (o a b : Int) (r : Bool) (hab : a < b) (hn : IntKind.i64.wrap (-if o < -9223372036854775807 then -9223372036854775807 else o) = -o) (H0 : Hid (∀ w, Calls Try.prog 32 #[.agg stdP, .int .i64 0, .int .i64 a] w fun e w' => e = .returned (.bool (decide (0 < a))) ∧ Below w.heap.size w w')) (H1 : Hid (∀ w, Calls Try.prog 32 #[.agg stdP, .int .i64 o, .int .i64 a] w fun e w' => e = .returned (.bool true) ∧ Below w.heap.size w w')) (H2 : Hid (∀ w, Calls Try.prog 32 #[.agg stdP, .int .i64 o, .int .i64 b] w fun e w' => e = .returned (.bool true) ∧ Below w.heap.size w w')) (H3 : Hid (∀ w, Calls Try.prog 32 #[.agg stdP, .int .i64 o, .int .i64 0] w fun e w' => e = .returned (.bool false) ∧ Below w.heap.size w w')) (H4 : Hid (∀ w, Calls Try.prog 32 #[.agg stdP, .int .i64 (-o), .int .i64 a] w fun e w' => e = .returned (.bool true) ∧ Below w.heap.size w w')) (o0 : -9223372036854775808 ≤ o) (o1 : o ≤ 9223372036854775807) (a0 : 0 ≤ a) (a1 : a ≤ 4294967295) (b0 : 0 ≤ b) (b1 : b ≤ 4294967295) (w : World) :
    Calls Try.prog 10 #[.int .i64 o, .int .u32 a, .int .u32 b] w fun e w' => e = .returned (.bool true) ∧ Below w.heap.size w w' := by
  have hw1 := i64_in 9223372036854775807 (by decide)
  go_enter Try.func10, Try.ntmps10
  go_wp2_with (first | (with_reducible refine (standard20 _).mono ?_; rintro e w1 ⟨rfl, hb1⟩))
  obtain ⟨W, HW, hbW, r0, r1, r2, r3, r4, r5, r6, r7, r8, r9, r10, r11⟩ := std_row w1
  rw [HW.out]
  refine wp_region_quiet_below (by kernel_rfl) (by kernel_rfl) ?_
  repeat (quiet_step (first | (with_reducible refine Calls.regrown_of (H0.out _)) | (with_reducible refine Calls.regrown_of (H1.out _)) | (with_reducible refine Calls.regrown_of (H2.out _)) | (with_reducible refine Calls.regrown_of (H3.out _)) | (with_reducible refine Calls.regrown_of (H4.out _)) | (with_reducible refine Calls.regrown_of (shown20 _))))
  refine wpQuiet_nil ?_
  rintro _ ⟨p, rfl⟩
  have hb2 := bnext (bnext hb1 hbW) (below_regrown W p.d p.os)
  generalize Sort.grow (redrawn W p.d) p.os = W2 at hb2 ⊢
  clear r0 r1 r2 r3 r4 r5 r6 r7 r8 r9 r10 r11 HW hbW
  go_wp2_with fail
  all_goals go_ret
  all_goals exact ⟨ret_bool (by simp), hb2⟩
set_option maxHeartbeats 2000000 in
theorem paceq_011 (o a b : Int) (r : Bool) (hab : a < b) (hn : IntKind.i64.wrap (-if o < -9223372036854775807 then -9223372036854775807 else o) = -o) (H0 : Hid (∀ w, Calls Try.prog 32 #[.agg stdP, .int .i64 0, .int .i64 a] w fun e w' => e = .returned (.bool (decide (0 < a))) ∧ Below w.heap.size w w')) (H1 : Hid (∀ w, Calls Try.prog 32 #[.agg stdP, .int .i64 o, .int .i64 a] w fun e w' => e = .returned (.bool false) ∧ Below w.heap.size w w')) (H2 : Hid (∀ w, Calls Try.prog 32 #[.agg stdP, .int .i64 o, .int .i64 b] w fun e w' => e = .returned (.bool r) ∧ Below w.heap.size w w')) (H3 : Hid (∀ w, Calls Try.prog 32 #[.agg stdP, .int .i64 o, .int .i64 0] w fun e w' => e = .returned (.bool false) ∧ Below w.heap.size w w')) (H4 : Hid (∀ w, Calls Try.prog 32 #[.agg stdP, .int .i64 (-o), .int .i64 a] w fun e w' => e = .returned (.bool false) ∧ Below w.heap.size w w')) (o0 : -9223372036854775808 ≤ o) (o1 : o ≤ 9223372036854775807) (a0 : 0 ≤ a) (a1 : a ≤ 4294967295) (b0 : 0 ≤ b) (b1 : b ≤ 4294967295) (w : World) :
    Calls Try.prog 10 #[.int .i64 o, .int .u32 a, .int .u32 b] w fun e w' => e = .returned (.bool true) ∧ Below w.heap.size w w' := by
  have hw1 := i64_in 9223372036854775807 (by decide)
  go_enter Try.func10, Try.ntmps10
  go_wp2_with (first | (with_reducible refine (standard20 _).mono ?_; rintro e w1 ⟨rfl, hb1⟩))
  obtain ⟨W, HW, hbW, r0, r1, r2, r3, r4, r5, r6, r7, r8, r9, r10, r11⟩ := std_row w1
  rw [HW.out]
  refine wp_region_quiet_below (by kernel_rfl) (by kernel_rfl) ?_
  repeat (quiet_step (first | (with_reducible refine Calls.regrown_of (H0.out _)) | (with_reducible refine Calls.regrown_of (H1.out _)) | (with_reducible refine Calls.regrown_of (H2.out _)) | (with_reducible refine Calls.regrown_of (H3.out _)) | (with_reducible refine Calls.regrown_of (H4.out _)) | (with_reducible refine Calls.regrown_of (shown20 _))))
  refine wpQuiet_nil ?_
  rintro _ ⟨p, rfl⟩
  have hb2 := bnext (bnext hb1 hbW) (below_regrown W p.d p.os)
  generalize Sort.grow (redrawn W p.d) p.os = W2 at hb2 ⊢
  clear r0 r1 r2 r3 r4 r5 r6 r7 r8 r9 r10 r11 HW hbW
  go_wp2_with fail
  all_goals go_ret
  all_goals exact ⟨ret_bool (by simp), hb2⟩
set_option maxHeartbeats 2000000 in
theorem paceq_100 (o a b : Int) (r : Bool) (hab : b < a) (hn : o < -9223372036854775807) (H0 : Hid (∀ w, Calls Try.prog 32 #[.agg stdP, .int .i64 0, .int .i64 b] w fun e w' => e = .returned (.bool (decide (0 < b))) ∧ Below w.heap.size w w')) (H1 : Hid (∀ w, Calls Try.prog 32 #[.agg stdP, .int .i64 o, .int .i64 b] w fun e w' => e = .returned (.bool true) ∧ Below w.heap.size w w')) (H2 : Hid (∀ w, Calls Try.prog 32 #[.agg stdP, .int .i64 o, .int .i64 a] w fun e w' => e = .returned (.bool true) ∧ Below w.heap.size w w')) (H3 : Hid (∀ w, Calls Try.prog 32 #[.agg stdP, .int .i64 o, .int .i64 0] w fun e w' => e = .returned (.bool false) ∧ Below w.heap.size w w')) (H4 : Hid (∀ w, Calls Try.prog 32 #[.agg stdP, .int .i64 9223372036854775807, .int .i64 b] w fun e w' => e = .returned (.bool true) ∧ Below w.heap.size w w')) (o0 : -9223372036854775808 ≤ o) (o1 : o ≤ 9223372036854775807) (a0 : 0 ≤ a) (a1 : a ≤ 4294967295) (b0 : 0 ≤ b) (b1 : b ≤ 4294967295) (w : World) :
    Calls Try.prog 10 #[.int .i64 o, .int .u32 a, .int .u32 b] w fun e w' => e = .returned (.bool true) ∧ Below w.heap.size w w' := by
  have hw1 := i64_in 9223372036854775807 (by decide)
  go_enter Try.func10, Try.ntmps10
  go_wp2_with (first | (with_reducible refine (standard20 _).mono ?_; rintro e w1 ⟨rfl, hb1⟩))
  obtain ⟨W, HW, hbW, r0, r1, r2, r3, r4, r5, r6, r7, r8, r9, r10, r11⟩ := std_row w1
  rw [HW.out]
  refine wp_region_quiet_below (by kernel_rfl) (by kernel_rfl) ?_
  repeat (quiet_step (first | (with_reducible refine Calls.regrown_of (H0.out _)) | (with_reducible refine Calls.regrown_of (H1.out _)) | (with_reducible refine Calls.regrown_of (H2.out _)) | (with_reducible refine Calls.regrown_of (H3.out _)) | (with_reducible refine Calls.regrown_of (H4.out _)) | (with_reducible refine Calls.regrown_of (shown20 _))))
  refine wpQuiet_nil ?_
  rintro _ ⟨p, rfl⟩
  have hb2 := bnext (bnext hb1 hbW) (below_regrown W p.d p.os)
  generalize Sort.grow (redrawn W p.d) p.os = W2 at hb2 ⊢
  clear r0 r1 r2 r3 r4 r5 r6 r7 r8 r9 r10 r11 HW hbW
  go_wp2_with fail
  all_goals go_ret
  all_goals exact ⟨ret_bool (by simp), hb2⟩
set_option maxHeartbeats 2000000 in
theorem paceq_101 (o a b : Int) (r : Bool) (hab : b < a) (hn : o < -9223372036854775807) (H0 : Hid (∀ w, Calls Try.prog 32 #[.agg stdP, .int .i64 0, .int .i64 b] w fun e w' => e = .returned (.bool (decide (0 < b))) ∧ Below w.heap.size w w')) (H1 : Hid (∀ w, Calls Try.prog 32 #[.agg stdP, .int .i64 o, .int .i64 b] w fun e w' => e = .returned (.bool false) ∧ Below w.heap.size w w')) (H2 : Hid (∀ w, Calls Try.prog 32 #[.agg stdP, .int .i64 o, .int .i64 a] w fun e w' => e = .returned (.bool r) ∧ Below w.heap.size w w')) (H3 : Hid (∀ w, Calls Try.prog 32 #[.agg stdP, .int .i64 o, .int .i64 0] w fun e w' => e = .returned (.bool false) ∧ Below w.heap.size w w')) (H4 : Hid (∀ w, Calls Try.prog 32 #[.agg stdP, .int .i64 9223372036854775807, .int .i64 b] w fun e w' => e = .returned (.bool false) ∧ Below w.heap.size w w')) (o0 : -9223372036854775808 ≤ o) (o1 : o ≤ 9223372036854775807) (a0 : 0 ≤ a) (a1 : a ≤ 4294967295) (b0 : 0 ≤ b) (b1 : b ≤ 4294967295) (w : World) :
    Calls Try.prog 10 #[.int .i64 o, .int .u32 a, .int .u32 b] w fun e w' => e = .returned (.bool true) ∧ Below w.heap.size w w' := by
  have hw1 := i64_in 9223372036854775807 (by decide)
  go_enter Try.func10, Try.ntmps10
  go_wp2_with (first | (with_reducible refine (standard20 _).mono ?_; rintro e w1 ⟨rfl, hb1⟩))
  obtain ⟨W, HW, hbW, r0, r1, r2, r3, r4, r5, r6, r7, r8, r9, r10, r11⟩ := std_row w1
  rw [HW.out]
  refine wp_region_quiet_below (by kernel_rfl) (by kernel_rfl) ?_
  repeat (quiet_step (first | (with_reducible refine Calls.regrown_of (H0.out _)) | (with_reducible refine Calls.regrown_of (H1.out _)) | (with_reducible refine Calls.regrown_of (H2.out _)) | (with_reducible refine Calls.regrown_of (H3.out _)) | (with_reducible refine Calls.regrown_of (H4.out _)) | (with_reducible refine Calls.regrown_of (shown20 _))))
  refine wpQuiet_nil ?_
  rintro _ ⟨p, rfl⟩
  have hb2 := bnext (bnext hb1 hbW) (below_regrown W p.d p.os)
  generalize Sort.grow (redrawn W p.d) p.os = W2 at hb2 ⊢
  clear r0 r1 r2 r3 r4 r5 r6 r7 r8 r9 r10 r11 HW hbW
  go_wp2_with fail
  all_goals go_ret
  all_goals exact ⟨ret_bool (by simp), hb2⟩
set_option maxHeartbeats 2000000 in
theorem paceq_110 (o a b : Int) (r : Bool) (hab : b < a) (hn : IntKind.i64.wrap (-if o < -9223372036854775807 then -9223372036854775807 else o) = -o) (H0 : Hid (∀ w, Calls Try.prog 32 #[.agg stdP, .int .i64 0, .int .i64 b] w fun e w' => e = .returned (.bool (decide (0 < b))) ∧ Below w.heap.size w w')) (H1 : Hid (∀ w, Calls Try.prog 32 #[.agg stdP, .int .i64 o, .int .i64 b] w fun e w' => e = .returned (.bool true) ∧ Below w.heap.size w w')) (H2 : Hid (∀ w, Calls Try.prog 32 #[.agg stdP, .int .i64 o, .int .i64 a] w fun e w' => e = .returned (.bool true) ∧ Below w.heap.size w w')) (H3 : Hid (∀ w, Calls Try.prog 32 #[.agg stdP, .int .i64 o, .int .i64 0] w fun e w' => e = .returned (.bool false) ∧ Below w.heap.size w w')) (H4 : Hid (∀ w, Calls Try.prog 32 #[.agg stdP, .int .i64 (-o), .int .i64 b] w fun e w' => e = .returned (.bool true) ∧ Below w.heap.size w w')) (o0 : -9223372036854775808 ≤ o) (o1 : o ≤ 9223372036854775807) (a0 : 0 ≤ a) (a1 : a ≤ 4294967295) (b0 : 0 ≤ b) (b1 : b ≤ 4294967295) (w : World) :
    Calls Try.prog 10 #[.int .i64 o, .int .u32 a, .int .u32 b] w fun e w' => e = .returned (.bool true) ∧ Below w.heap.size w w' := by
  have hw1 := i64_in 9223372036854775807 (by decide)
  go_enter Try.func10, Try.ntmps10
  go_wp2_with (first | (with_reducible refine (standard20 _).mono ?_; rintro e w1 ⟨rfl, hb1⟩))
  obtain ⟨W, HW, hbW, r0, r1, r2, r3, r4, r5, r6, r7, r8, r9, r10, r11⟩ := std_row w1
  rw [HW.out]
  refine wp_region_quiet_below (by kernel_rfl) (by kernel_rfl) ?_
  repeat (quiet_step (first | (with_reducible refine Calls.regrown_of (H0.out _)) | (with_reducible refine Calls.regrown_of (H1.out _)) | (with_reducible refine Calls.regrown_of (H2.out _)) | (with_reducible refine Calls.regrown_of (H3.out _)) | (with_reducible refine Calls.regrown_of (H4.out _)) | (with_reducible refine Calls.regrown_of (shown20 _))))
  refine wpQuiet_nil ?_
  rintro _ ⟨p, rfl⟩
  have hb2 := bnext (bnext hb1 hbW) (below_regrown W p.d p.os)
  generalize Sort.grow (redrawn W p.d) p.os = W2 at hb2 ⊢
  clear r0 r1 r2 r3 r4 r5 r6 r7 r8 r9 r10 r11 HW hbW
  go_wp2_with fail
  all_goals go_ret
  all_goals exact ⟨ret_bool (by simp), hb2⟩
set_option maxHeartbeats 2000000 in
theorem paceq_111 (o a b : Int) (r : Bool) (hab : b < a) (hn : IntKind.i64.wrap (-if o < -9223372036854775807 then -9223372036854775807 else o) = -o) (H0 : Hid (∀ w, Calls Try.prog 32 #[.agg stdP, .int .i64 0, .int .i64 b] w fun e w' => e = .returned (.bool (decide (0 < b))) ∧ Below w.heap.size w w')) (H1 : Hid (∀ w, Calls Try.prog 32 #[.agg stdP, .int .i64 o, .int .i64 b] w fun e w' => e = .returned (.bool false) ∧ Below w.heap.size w w')) (H2 : Hid (∀ w, Calls Try.prog 32 #[.agg stdP, .int .i64 o, .int .i64 a] w fun e w' => e = .returned (.bool r) ∧ Below w.heap.size w w')) (H3 : Hid (∀ w, Calls Try.prog 32 #[.agg stdP, .int .i64 o, .int .i64 0] w fun e w' => e = .returned (.bool false) ∧ Below w.heap.size w w')) (H4 : Hid (∀ w, Calls Try.prog 32 #[.agg stdP, .int .i64 (-o), .int .i64 b] w fun e w' => e = .returned (.bool false) ∧ Below w.heap.size w w')) (o0 : -9223372036854775808 ≤ o) (o1 : o ≤ 9223372036854775807) (a0 : 0 ≤ a) (a1 : a ≤ 4294967295) (b0 : 0 ≤ b) (b1 : b ≤ 4294967295) (w : World) :
    Calls Try.prog 10 #[.int .i64 o, .int .u32 a, .int .u32 b] w fun e w' => e = .returned (.bool true) ∧ Below w.heap.size w w' := by
  have hw1 := i64_in 9223372036854775807 (by decide)
  go_enter Try.func10, Try.ntmps10
  go_wp2_with (first | (with_reducible refine (standard20 _).mono ?_; rintro e w1 ⟨rfl, hb1⟩))
  obtain ⟨W, HW, hbW, r0, r1, r2, r3, r4, r5, r6, r7, r8, r9, r10, r11⟩ := std_row w1
  rw [HW.out]
  refine wp_region_quiet_below (by kernel_rfl) (by kernel_rfl) ?_
  repeat (quiet_step (first | (with_reducible refine Calls.regrown_of (H0.out _)) | (with_reducible refine Calls.regrown_of (H1.out _)) | (with_reducible refine Calls.regrown_of (H2.out _)) | (with_reducible refine Calls.regrown_of (H3.out _)) | (with_reducible refine Calls.regrown_of (H4.out _)) | (with_reducible refine Calls.regrown_of (shown20 _))))
  refine wpQuiet_nil ?_
  rintro _ ⟨p, rfl⟩
  have hb2 := bnext (bnext hb1 hbW) (below_regrown W p.d p.os)
  generalize Sort.grow (redrawn W p.d) p.os = W2 at hb2 ⊢
  clear r0 r1 r2 r3 r4 r5 r6 r7 r8 r9 r10 r11 HW hbW
  go_wp2_with fail
  all_goals go_ret
  all_goals exact ⟨ret_bool (by simp), hb2⟩
set_option maxHeartbeats 2000000 in
theorem paceq_200 (o a b : Int) (r : Bool)  (hn : o < -9223372036854775807) (H0 : Hid (∀ w, Calls Try.prog 32 #[.agg stdP, .int .i64 0, .int .i64 a] w fun e w' => e = .returned (.bool (decide (0 < a))) ∧ Below w.heap.size w w')) (H1 : Hid (∀ w, Calls Try.prog 32 #[.agg stdP, .int .i64 o, .int .i64 a] w fun e w' => e = .returned (.bool true) ∧ Below w.heap.size w w')) (H2 : Hid (∀ w, Calls Try.prog 32 #[.agg stdP, .int .i64 o, .int .i64 a] w fun e w' => e = .returned (.bool true) ∧ Below w.heap.size w w')) (H3 : Hid (∀ w, Calls Try.prog 32 #[.agg stdP, .int .i64 o, .int .i64 0] w fun e w' => e = .returned (.bool false) ∧ Below w.heap.size w w')) (H4 : Hid (∀ w, Calls Try.prog 32 #[.agg stdP, .int .i64 9223372036854775807, .int .i64 a] w fun e w' => e = .returned (.bool true) ∧ Below w.heap.size w w')) (o0 : -9223372036854775808 ≤ o) (o1 : o ≤ 9223372036854775807) (a0 : 0 ≤ a) (a1 : a ≤ 4294967295) (b0 : 0 ≤ b) (b1 : b ≤ 4294967295) (w : World) :
    Calls Try.prog 10 #[.int .i64 o, .int .u32 a, .int .u32 a] w fun e w' => e = .returned (.bool true) ∧ Below w.heap.size w w' := by
  have hw1 := i64_in 9223372036854775807 (by decide)
  go_enter Try.func10, Try.ntmps10
  go_wp2_with (first | (with_reducible refine (standard20 _).mono ?_; rintro e w1 ⟨rfl, hb1⟩))
  obtain ⟨W, HW, hbW, r0, r1, r2, r3, r4, r5, r6, r7, r8, r9, r10, r11⟩ := std_row w1
  rw [HW.out]
  refine wp_region_quiet_below (by kernel_rfl) (by kernel_rfl) ?_
  repeat (quiet_step (first | (with_reducible refine Calls.regrown_of (H0.out _)) | (with_reducible refine Calls.regrown_of (H1.out _)) | (with_reducible refine Calls.regrown_of (H2.out _)) | (with_reducible refine Calls.regrown_of (H3.out _)) | (with_reducible refine Calls.regrown_of (H4.out _)) | (with_reducible refine Calls.regrown_of (shown20 _))))
  refine wpQuiet_nil ?_
  rintro _ ⟨p, rfl⟩
  have hb2 := bnext (bnext hb1 hbW) (below_regrown W p.d p.os)
  generalize Sort.grow (redrawn W p.d) p.os = W2 at hb2 ⊢
  clear r0 r1 r2 r3 r4 r5 r6 r7 r8 r9 r10 r11 HW hbW
  go_wp2_with fail
  all_goals go_ret
  all_goals exact ⟨ret_bool (by simp), hb2⟩
set_option maxHeartbeats 2000000 in
theorem paceq_201 (o a b : Int) (r : Bool)  (hn : o < -9223372036854775807) (H0 : Hid (∀ w, Calls Try.prog 32 #[.agg stdP, .int .i64 0, .int .i64 a] w fun e w' => e = .returned (.bool (decide (0 < a))) ∧ Below w.heap.size w w')) (H1 : Hid (∀ w, Calls Try.prog 32 #[.agg stdP, .int .i64 o, .int .i64 a] w fun e w' => e = .returned (.bool false) ∧ Below w.heap.size w w')) (H2 : Hid (∀ w, Calls Try.prog 32 #[.agg stdP, .int .i64 o, .int .i64 a] w fun e w' => e = .returned (.bool r) ∧ Below w.heap.size w w')) (H3 : Hid (∀ w, Calls Try.prog 32 #[.agg stdP, .int .i64 o, .int .i64 0] w fun e w' => e = .returned (.bool false) ∧ Below w.heap.size w w')) (H4 : Hid (∀ w, Calls Try.prog 32 #[.agg stdP, .int .i64 9223372036854775807, .int .i64 a] w fun e w' => e = .returned (.bool false) ∧ Below w.heap.size w w')) (o0 : -9223372036854775808 ≤ o) (o1 : o ≤ 9223372036854775807) (a0 : 0 ≤ a) (a1 : a ≤ 4294967295) (b0 : 0 ≤ b) (b1 : b ≤ 4294967295) (w : World) :
    Calls Try.prog 10 #[.int .i64 o, .int .u32 a, .int .u32 a] w fun e w' => e = .returned (.bool true) ∧ Below w.heap.size w w' := by
  have hw1 := i64_in 9223372036854775807 (by decide)
  go_enter Try.func10, Try.ntmps10
  go_wp2_with (first | (with_reducible refine (standard20 _).mono ?_; rintro e w1 ⟨rfl, hb1⟩))
  obtain ⟨W, HW, hbW, r0, r1, r2, r3, r4, r5, r6, r7, r8, r9, r10, r11⟩ := std_row w1
  rw [HW.out]
  refine wp_region_quiet_below (by kernel_rfl) (by kernel_rfl) ?_
  repeat (quiet_step (first | (with_reducible refine Calls.regrown_of (H0.out _)) | (with_reducible refine Calls.regrown_of (H1.out _)) | (with_reducible refine Calls.regrown_of (H2.out _)) | (with_reducible refine Calls.regrown_of (H3.out _)) | (with_reducible refine Calls.regrown_of (H4.out _)) | (with_reducible refine Calls.regrown_of (shown20 _))))
  refine wpQuiet_nil ?_
  rintro _ ⟨p, rfl⟩
  have hb2 := bnext (bnext hb1 hbW) (below_regrown W p.d p.os)
  generalize Sort.grow (redrawn W p.d) p.os = W2 at hb2 ⊢
  clear r0 r1 r2 r3 r4 r5 r6 r7 r8 r9 r10 r11 HW hbW
  go_wp2_with fail
  all_goals go_ret
  all_goals exact ⟨ret_bool (by simp), hb2⟩
set_option maxHeartbeats 2000000 in
theorem paceq_210 (o a b : Int) (r : Bool)  (hn : IntKind.i64.wrap (-if o < -9223372036854775807 then -9223372036854775807 else o) = -o) (H0 : Hid (∀ w, Calls Try.prog 32 #[.agg stdP, .int .i64 0, .int .i64 a] w fun e w' => e = .returned (.bool (decide (0 < a))) ∧ Below w.heap.size w w')) (H1 : Hid (∀ w, Calls Try.prog 32 #[.agg stdP, .int .i64 o, .int .i64 a] w fun e w' => e = .returned (.bool true) ∧ Below w.heap.size w w')) (H2 : Hid (∀ w, Calls Try.prog 32 #[.agg stdP, .int .i64 o, .int .i64 a] w fun e w' => e = .returned (.bool true) ∧ Below w.heap.size w w')) (H3 : Hid (∀ w, Calls Try.prog 32 #[.agg stdP, .int .i64 o, .int .i64 0] w fun e w' => e = .returned (.bool false) ∧ Below w.heap.size w w')) (H4 : Hid (∀ w, Calls Try.prog 32 #[.agg stdP, .int .i64 (-o), .int .i64 a] w fun e w' => e = .returned (.bool true) ∧ Below w.heap.size w w')) (o0 : -9223372036854775808 ≤ o) (o1 : o ≤ 9223372036854775807) (a0 : 0 ≤ a) (a1 : a ≤ 4294967295) (b0 : 0 ≤ b) (b1 : b ≤ 4294967295) (w : World) :
    Calls Try.prog 10 #[.int .i64 o, .int .u32 a, .int .u32 a] w fun e w' => e = .returned (.bool true) ∧ Below w.heap.size w w' := by
  have hw1 := i64_in 9223372036854775807 (by decide)
  go_enter Try.func10, Try.ntmps10
  go_wp2_with (first | (with_reducible refine (standard20 _).mono ?_; rintro e w1 ⟨rfl, hb1⟩))
  obtain ⟨W, HW, hbW, r0, r1, r2, r3, r4, r5, r6, r7, r8, r9, r10, r11⟩ := std_row w1
  rw [HW.out]
  refine wp_region_quiet_below (by kernel_rfl) (by kernel_rfl) ?_
  repeat (quiet_step (first | (with_reducible refine Calls.regrown_of (H0.out _)) | (with_reducible refine Calls.regrown_of (H1.out _)) | (with_reducible refine Calls.regrown_of (H2.out _)) | (with_reducible refine Calls.regrown_of (H3.out _)) | (with_reducible refine Calls.regrown_of (H4.out _)) | (with_reducible refine Calls.regrown_of (shown20 _))))
  refine wpQuiet_nil ?_
  rintro _ ⟨p, rfl⟩
  have hb2 := bnext (bnext hb1 hbW) (below_regrown W p.d p.os)
  generalize Sort.grow (redrawn W p.d) p.os = W2 at hb2 ⊢
  clear r0 r1 r2 r3 r4 r5 r6 r7 r8 r9 r10 r11 HW hbW
  go_wp2_with fail
  all_goals go_ret
  all_goals exact ⟨ret_bool (by simp), hb2⟩
set_option maxHeartbeats 2000000 in
theorem paceq_211 (o a b : Int) (r : Bool)  (hn : IntKind.i64.wrap (-if o < -9223372036854775807 then -9223372036854775807 else o) = -o) (H0 : Hid (∀ w, Calls Try.prog 32 #[.agg stdP, .int .i64 0, .int .i64 a] w fun e w' => e = .returned (.bool (decide (0 < a))) ∧ Below w.heap.size w w')) (H1 : Hid (∀ w, Calls Try.prog 32 #[.agg stdP, .int .i64 o, .int .i64 a] w fun e w' => e = .returned (.bool false) ∧ Below w.heap.size w w')) (H2 : Hid (∀ w, Calls Try.prog 32 #[.agg stdP, .int .i64 o, .int .i64 a] w fun e w' => e = .returned (.bool r) ∧ Below w.heap.size w w')) (H3 : Hid (∀ w, Calls Try.prog 32 #[.agg stdP, .int .i64 o, .int .i64 0] w fun e w' => e = .returned (.bool false) ∧ Below w.heap.size w w')) (H4 : Hid (∀ w, Calls Try.prog 32 #[.agg stdP, .int .i64 (-o), .int .i64 a] w fun e w' => e = .returned (.bool false) ∧ Below w.heap.size w w')) (o0 : -9223372036854775808 ≤ o) (o1 : o ≤ 9223372036854775807) (a0 : 0 ≤ a) (a1 : a ≤ 4294967295) (b0 : 0 ≤ b) (b1 : b ≤ 4294967295) (w : World) :
    Calls Try.prog 10 #[.int .i64 o, .int .u32 a, .int .u32 a] w fun e w' => e = .returned (.bool true) ∧ Below w.heap.size w w' := by
  have hw1 := i64_in 9223372036854775807 (by decide)
  go_enter Try.func10, Try.ntmps10
  go_wp2_with (first | (with_reducible refine (standard20 _).mono ?_; rintro e w1 ⟨rfl, hb1⟩))
  obtain ⟨W, HW, hbW, r0, r1, r2, r3, r4, r5, r6, r7, r8, r9, r10, r11⟩ := std_row w1
  rw [HW.out]
  refine wp_region_quiet_below (by kernel_rfl) (by kernel_rfl) ?_
  repeat (quiet_step (first | (with_reducible refine Calls.regrown_of (H0.out _)) | (with_reducible refine Calls.regrown_of (H1.out _)) | (with_reducible refine Calls.regrown_of (H2.out _)) | (with_reducible refine Calls.regrown_of (H3.out _)) | (with_reducible refine Calls.regrown_of (H4.out _)) | (with_reducible refine Calls.regrown_of (shown20 _))))
  refine wpQuiet_nil ?_
  rintro _ ⟨p, rfl⟩
  have hb2 := bnext (bnext hb1 hbW) (below_regrown W p.d p.os)
  generalize Sort.grow (redrawn W p.d) p.os = W2 at hb2 ⊢
  clear r0 r1 r2 r3 r4 r5 r6 r7 r8 r9 r10 r11 HW hbW
  go_wp2_with fail
  all_goals go_ret
  all_goals exact ⟨ret_bool (by simp), hb2⟩
end Go.Proofs.Ytmgfnejiienghaa
