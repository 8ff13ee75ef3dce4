/- Several texts in one. -/
import Derived.Test.YtmgfnejiienghaaM9
import Derived.Test.YtmgfnejiienghaaM10
/- The walks over package pace: next, Next, what is shown. -/
namespace Go.Proofs.Ytmgfnejiienghaa
open Go.RowKit Go.IntWalk
set_option linter.unusedVariables false
set_option maxRecDepth 100000

/-- the next pace: what is held already, and was it quiet -/
def pStep (p c : Int) (q : Bool) : Int × Int :=
  if q then (if 30 < c + p then (clampI (p + 1) 6 10, 0) else (p, c + p))
  else (if 30 < -(c - 2 * p) then (clampI (p - 1) 6 10, 0) else (p, c - 2 * p))
def pNext (x c : Int) (q : Bool) : Int × Int := pStep (clampI x 6 10) (clampI c (-30) 30) q
/-- what memory holds in next: the pace, what is set, the result -/
structure PN (B : Nat) (p d : Int) (w W : World) : Prop where
  c0 : W.heap[B]? = some (.cells #[.int .i64 p, .int .i64 d] 65 (0, 0))
  c1 : W.heap[B + 1]? = some (.cells stdP 26 (0, 0))
  c2 : W.heap[B + 1 + 1]? = some (.cells #[.int .i64 0, .int .i64 0] 65 (0, 0))
  sz : B + 1 + 1 < W.heap.size
  bw : Below w.heap.size w W
  hB : w.heap.size ≤ B
theorem PN.start {w w1 : World} {x c : Int} (hb1 : Below (((w.alloc (.cells #[.int .i64 x, .int .i64 c] 65)).alloc (.cells stdP 26)).alloc (.cells #[.int .i64 0, .int .i64 0] 65)).heap.size (((w.alloc (.cells #[.int .i64 x, .int .i64 c] 65)).alloc (.cells stdP 26)).alloc (.cells #[.int .i64 0, .int .i64 0] 65)) w1) : PN w.heap.size x c w w1 := by
  have hs : (((w.alloc (.cells #[.int .i64 x, .int .i64 c] 65)).alloc (.cells stdP 26)).alloc (.cells #[.int .i64 0, .int .i64 0] 65)).heap.size = w.heap.size + 3 := by simp
  have hz := hb1.size
  refine ⟨?_, ?_, ?_, by omega, bnext (balloc (balloc (balloc (Below.refl _ _) _) _) _) hb1, Nat.le_refl _⟩
  · rw [hb1.block _ (by omega), ((Below.refl _ _).alloc (Nat.le_refl _) _).block _ (by simp; omega), ((Below.refl _ _).alloc (Nat.le_refl _) _).block _ (by simp)]
    exact heap_alloc_new _ _
  · rw [hb1.block _ (by omega), ((Below.refl _ _).alloc (Nat.le_refl _) _).block _ (by simp)]
    exact heap_alloc2_new _ _ _
  · rw [hb1.block _ (by omega)]
    exact heap_alloc3_new w _ _ _
theorem PN.row {B : Nat} {p d p' d' : Int} {w W : World} (h : PN B p d w W) : PN B p' d' w (W.setRow B #[.int .i64 p', .int .i64 d']) :=
  ⟨setRow_heap _ _ _ _ _ _ h.c0, by rw [setRow_other _ _ _ _ (by omega)]; exact h.c1, by rw [setRow_other _ _ _ _ (by omega)]; exact h.c2, by have := h.sz; simpa using this, below_setRow h.bw h.hB _, h.hB⟩
theorem PN.set {B : Nat} {p d : Int} {w W : World} (h : PN B p d w W) (d' : Int) : PN B p d' w (W.setCell ⟨B, 1, none⟩ (.int .i64 d')) :=
  ⟨cells_step h.c0 rfl, by rw [Below.heap_setCell _ _ _ _ (by show B + 1 ≠ B; omega)]; exact h.c1, by rw [Below.heap_setCell _ _ _ _ (by show B + 1 + 1 ≠ B; omega)]; exact h.c2, by have := h.sz; simpa [World.setCell] using this, h.bw.setCell (p := ⟨B, 1, none⟩) h.hB _, h.hB⟩
theorem PN.alloc {B : Nat} {p d : Int} {w W : World} (h : PN B p d w W) (o : Obj) : PN B p d w (W.alloc o) := by
  have hz := h.sz
  have hb := (Below.refl W.heap.size W).alloc (Nat.le_refl _) o
  exact ⟨by rw [hb.block _ (by omega)]; exact h.c0, by rw [hb.block _ (by omega)]; exact h.c1, by rw [hb.block _ (by omega)]; exact h.c2, by simp; omega, balloc h.bw _, h.hB⟩
/-- the world as the turn is asked: the cell of up laid, the count set -/
theorem PN.turn {B : Nat} {p d : Int} {w W : World} (h : PN B p d w W) (d' u : Int) : ∃ W', (W.setCell ⟨B, 1, none⟩ (.int .i64 d')).alloc (.cells #[.int .i64 u] 3) = W' ∧ PN B p d' w W' ∧ W'.cell? ⟨W.heap.size, 0, none⟩ = some (.int .i64 u) := by
  refine ⟨_, rfl, (h.set d').alloc _, ?_⟩
  have e : (W.setCell ⟨B, 1, none⟩ (.int .i64 d')).heap.size = W.heap.size := by simp [World.setCell]
  have k := heap_alloc_new (W.setCell ⟨B, 1, none⟩ (.int .i64 d')) (.cells #[.int .i64 u] 3)
  rw [e] at k
  exact cell_of_heap' (o := 0) k rfl
set_option maxHeartbeats 400000 in
theorem turn_any (b b' : Nat) (c u m : Int) (w : World) (hc : w.cell? ⟨b, 1, none⟩ = some (.int .i64 c)) (hu : w.cell? ⟨b', 0, none⟩ = some (.int .i64 u)) (hm : IntKind.i64.wrap (c * u) = m) :
    Calls Try.prog 105 #[.pointer (some ⟨b, 0, none⟩), .pointer (some ⟨b', 0, none⟩)] w fun e w' => e = .returned (.bool (decide (30 < m))) ∧ w = w' := by
  go_enter Try.func105, Try.ntmps105
  go_wp2_with fail
  go_ret
  exact ⟨ret_bool (by simp), rfl⟩
set_option maxHeartbeats 400000 in
theorem next_any (x c : Int) (q : Bool) (w : World) :
    Calls Try.prog 54 #[.agg #[.int .i64 x, .int .i64 c], .agg stdP, .bool q] w fun e w' => e = .returned (.agg #[.int .i64 (pNext x c q).1, .int .i64 (pNext x c q).2]) ∧ Below w.heap.size w w' := by
  have HH := Lib.hid (heldp_any x c)
  have kp := clampI_in x (low := 6) (high := 10) (by decide)
  have kc := clampI_in c (low := -30) (high := 30) (by decide)
  have HN : Hid (pNext x c q = pStep (clampI x 6 10) (clampI c (-30) 30) q) := Lib.hid rfl
  generalize clampI x 6 10 = p at HH kp HN
  generalize clampI c (-30) 30 = d at HH kc HN
  have HB : Hid (∀ w, Calls Try.prog 104 #[.int .i64 p, .int .i64 (-1000), .int .i64 1000] w fun e w' => e = .returned (.int .i64 p) ∧ w = w') := Lib.hid fun w => by
    have h := heldn_any p (-1000) 1000 w
    rwa [show clampI p (-1000) 1000 = p by simp [clampI]; omega] at h
  obtain ⟨kp0, kp1⟩ := kp
  obtain ⟨kc0, kc1⟩ := kc
  cases q with
  | true =>
    obtain ⟨n, En⟩ : ∃ n, d + p = n := ⟨_, rfl⟩
    have HE := Lib.hid En
    have hw : IntKind.i64.wrap (n * 1) = n := by rw [Int.mul_one]; exact i64_in n (by omega)
    have HK := Lib.hid (heldn_any (p + 1) 6 10)
    by_cases h : 30 < d + p
    · have HR : Hid (pNext x c true = (clampI (p + 1) 6 10, 0)) := Lib.hid (by rw [HN.out]; simp only [pStep, if_true, if_pos h])
      have HF : Hid (decide (30 < n) = true) := Lib.hid (decide_eq_true (by omega))
      obtain ⟨k, Ek⟩ : ∃ k, clampI (p + 1) 6 10 = k := ⟨_, rfl⟩
      rw [Ek] at HR HK
      clear Ek
      clear h HN En
      go_enter Try.func54, Try.ntmps54
      go_wp2_with (first
        | (with_reducible refine (HH.out _).mono ?_; rintro e w1 ⟨rfl, hb1⟩; have hp := PN.start hb1; clear hb1; obtain ⟨wq, rfl⟩ : ∃ wq : World, wq = w1 := ⟨_, rfl⟩)
        | (refine wpList_store_row rfl 65 (.tmp 3) (.tmp 12) rfl _ #[.int .i64 p, .int .i64 d] rfl rfl _ _ hp.c0 (by kernel_rfl) rfl (pace_one _ _) ?_; replace hp := hp.row (p' := p) (d' := d); generalize wq.setRow w.heap.size #[.int .i64 p, .int .i64 d] = W1 at hp ⊢; have q0 : W1.cell? ⟨w.heap.size, 0, none⟩ = some (.int .i64 p) := cell_of_heap' (o := 0) hp.c0 rfl; have q1 : W1.cell? ⟨w.heap.size, 1, none⟩ = some (.int .i64 d) := cell_of_heap' (o := 1) hp.c0 rfl; have g1 : W1.frozen? ⟨w.heap.size, 1, none⟩ = false := free_of_heap' (o := 1) hp.c0; have hlt : w.heap.size < W1.heap.size := by have := hp.sz; omega)
        | (with_reducible refine (HB.out _).mono ?_; rintro e w1 ⟨rfl, rfl⟩)
        | (go_at_call 105; rw [HE.out]; obtain ⟨W2, hW, hp2, hu⟩ := hp.turn n (1); rw [hW]; clear hW hp q0 q1 g1; have q0 : W2.cell? ⟨w.heap.size, 0, none⟩ = some (.int .i64 p) := cell_of_heap' (o := 0) hp2.c0 rfl; have q1 : W2.cell? ⟨w.heap.size, 1, none⟩ = some (.int .i64 n) := cell_of_heap' (o := 1) hp2.c0 rfl; have q7 : W2.cell? ⟨w.heap.size + 1, 7, none⟩ = some (.int .i64 6) := cell_of_heap' (o := 7) hp2.c1 rfl; have q8 : W2.cell? ⟨w.heap.size + 1, 8, none⟩ = some (.int .i64 10) := cell_of_heap' (o := 8) hp2.c1 rfl; refine (turn_any w.heap.size W1.heap.size n (1) _ W2 q1 hu hw).mono ?_; rintro e w2 ⟨rfl, rfl⟩; rw [HF.out])
        | (with_reducible refine (HK.out _).mono ?_; rintro e w1 ⟨rfl, rfl⟩)
        | (refine wpList_store_row rfl 65 (.tmp 3) (.tmp 37) rfl _ #[.int .i64 k, .int .i64 0] rfl rfl _ _ hp2.c0 (by kernel_rfl) rfl (pace_one _ _) ?_; replace hp2 := hp2.row (p' := k) (d' := 0); generalize W2.setRow w.heap.size #[.int .i64 k, .int .i64 0] = W3 at hp2 ⊢)
        | (refine wpList_load_row rfl 65 (.tmp 3) rfl _ rfl _ _ _ _ hp2.c0 Try.underlying65 rfl (by kernel_rfl) ?_)
        | (refine wpList_store_row rfl 65 (.tmp 6) (.tmp 38) rfl _ #[.int .i64 k, .int .i64 0] rfl rfl _ _ hp2.c2 (by kernel_rfl) rfl (pace_one _ _) ?_))
      exact bodyPost_ret (v := .agg #[.int .i64 k, .int .i64 0]) (results_cell_row rfl _ _ (w.heap.size + 1 + 1) _ _ _ _ rfl (setRow_heap _ _ _ _ _ _ hp2.c2) Try.underlying65 rfl (by kernel_rfl)) rfl ⟨by rw [HR.out], below_setRow hp2.bw (by omega) _⟩
    · have HR : Hid (pNext x c true = (p, n)) := Lib.hid (by rw [HN.out]; simp only [pStep, if_true, if_neg h, ← En])
      have HF : Hid (decide (30 < n) = false) := Lib.hid (decide_eq_false (by omega))
      clear h HN En
      go_enter Try.func54, Try.ntmps54
      go_wp2_with (first
        | (with_reducible refine (HH.out _).mono ?_; rintro e w1 ⟨rfl, hb1⟩; have hp := PN.start hb1; clear hb1; obtain ⟨wq, rfl⟩ : ∃ wq : World, wq = w1 := ⟨_, rfl⟩)
        | (refine wpList_store_row rfl 65 (.tmp 3) (.tmp 12) rfl _ #[.int .i64 p, .int .i64 d] rfl rfl _ _ hp.c0 (by kernel_rfl) rfl (pace_one _ _) ?_; replace hp := hp.row (p' := p) (d' := d); generalize wq.setRow w.heap.size #[.int .i64 p, .int .i64 d] = W1 at hp ⊢; have q0 : W1.cell? ⟨w.heap.size, 0, none⟩ = some (.int .i64 p) := cell_of_heap' (o := 0) hp.c0 rfl; have q1 : W1.cell? ⟨w.heap.size, 1, none⟩ = some (.int .i64 d) := cell_of_heap' (o := 1) hp.c0 rfl; have g1 : W1.frozen? ⟨w.heap.size, 1, none⟩ = false := free_of_heap' (o := 1) hp.c0; have hlt : w.heap.size < W1.heap.size := by have := hp.sz; omega)
        | (with_reducible refine (HB.out _).mono ?_; rintro e w1 ⟨rfl, rfl⟩)
        | (go_at_call 105; rw [HE.out]; obtain ⟨W2, hW, hp2, hu⟩ := hp.turn n (1); rw [hW]; clear hW hp q0 q1 g1; have q0 : W2.cell? ⟨w.heap.size, 0, none⟩ = some (.int .i64 p) := cell_of_heap' (o := 0) hp2.c0 rfl; have q1 : W2.cell? ⟨w.heap.size, 1, none⟩ = some (.int .i64 n) := cell_of_heap' (o := 1) hp2.c0 rfl; have q7 : W2.cell? ⟨w.heap.size + 1, 7, none⟩ = some (.int .i64 6) := cell_of_heap' (o := 7) hp2.c1 rfl; have q8 : W2.cell? ⟨w.heap.size + 1, 8, none⟩ = some (.int .i64 10) := cell_of_heap' (o := 8) hp2.c1 rfl; refine (turn_any w.heap.size W1.heap.size n (1) _ W2 q1 hu hw).mono ?_; rintro e w2 ⟨rfl, rfl⟩; rw [HF.out])
        | (refine wpList_load_row rfl 65 (.tmp 3) rfl _ rfl _ _ _ _ hp2.c0 Try.underlying65 rfl (by kernel_rfl) ?_)
        | (refine wpList_store_row rfl 65 (.tmp 6) (.tmp 38) rfl _ #[.int .i64 p, .int .i64 n] rfl rfl _ _ hp2.c2 (by kernel_rfl) rfl (pace_one _ _) ?_))
      exact bodyPost_ret (v := .agg #[.int .i64 p, .int .i64 n]) (results_cell_row rfl _ _ (w.heap.size + 1 + 1) _ _ _ _ rfl (setRow_heap _ _ _ _ _ _ hp2.c2) Try.underlying65 rfl (by kernel_rfl)) rfl ⟨by rw [HR.out], below_setRow hp2.bw (by omega) _⟩
  | false =>
    obtain ⟨n, En⟩ : ∃ n, d - 2 * p = n := ⟨_, rfl⟩
    have HE : Hid (d + -2 * p = n) := Lib.hid (by omega)
    have hw : IntKind.i64.wrap (n * -1) = -n := by rw [show n * -1 = -n by omega]; exact i64_in _ (by omega)
    have HK := Lib.hid (heldn_any (p + -1) 6 10)
    by_cases h : 30 < -(d - 2 * p)
    · have HR : Hid (pNext x c false = (clampI (p + -1) 6 10, 0)) := Lib.hid (by rw [HN.out]; simp only [pStep, Bool.false_eq_true, if_false]; rw [if_pos h]; rfl)
      have HF : Hid (decide (30 < -n) = true) := Lib.hid (decide_eq_true (by omega))
      obtain ⟨k, Ek⟩ : ∃ k, clampI (p + -1) 6 10 = k := ⟨_, rfl⟩
      rw [Ek] at HR HK
      clear Ek
      clear h HN En
      go_enter Try.func54, Try.ntmps54
      go_wp2_with (first
        | (with_reducible refine (HH.out _).mono ?_; rintro e w1 ⟨rfl, hb1⟩; have hp := PN.start hb1; clear hb1; obtain ⟨wq, rfl⟩ : ∃ wq : World, wq = w1 := ⟨_, rfl⟩)
        | (refine wpList_store_row rfl 65 (.tmp 3) (.tmp 12) rfl _ #[.int .i64 p, .int .i64 d] rfl rfl _ _ hp.c0 (by kernel_rfl) rfl (pace_one _ _) ?_; replace hp := hp.row (p' := p) (d' := d); generalize wq.setRow w.heap.size #[.int .i64 p, .int .i64 d] = W1 at hp ⊢; have q0 : W1.cell? ⟨w.heap.size, 0, none⟩ = some (.int .i64 p) := cell_of_heap' (o := 0) hp.c0 rfl; have q1 : W1.cell? ⟨w.heap.size, 1, none⟩ = some (.int .i64 d) := cell_of_heap' (o := 1) hp.c0 rfl; have g1 : W1.frozen? ⟨w.heap.size, 1, none⟩ = false := free_of_heap' (o := 1) hp.c0; have hlt : w.heap.size < W1.heap.size := by have := hp.sz; omega)
        | (with_reducible refine (HB.out _).mono ?_; rintro e w1 ⟨rfl, rfl⟩)
        | (go_at_call 105; rw [HE.out]; obtain ⟨W2, hW, hp2, hu⟩ := hp.turn n (-1); rw [hW]; clear hW hp q0 q1 g1; have q0 : W2.cell? ⟨w.heap.size, 0, none⟩ = some (.int .i64 p) := cell_of_heap' (o := 0) hp2.c0 rfl; have q1 : W2.cell? ⟨w.heap.size, 1, none⟩ = some (.int .i64 n) := cell_of_heap' (o := 1) hp2.c0 rfl; have q7 : W2.cell? ⟨w.heap.size + 1, 7, none⟩ = some (.int .i64 6) := cell_of_heap' (o := 7) hp2.c1 rfl; have q8 : W2.cell? ⟨w.heap.size + 1, 8, none⟩ = some (.int .i64 10) := cell_of_heap' (o := 8) hp2.c1 rfl; refine (turn_any w.heap.size W1.heap.size n (-1) _ W2 q1 hu hw).mono ?_; rintro e w2 ⟨rfl, rfl⟩; rw [HF.out])
        | (with_reducible refine (HK.out _).mono ?_; rintro e w1 ⟨rfl, rfl⟩)
        | (refine wpList_store_row rfl 65 (.tmp 3) (.tmp 37) rfl _ #[.int .i64 k, .int .i64 0] rfl rfl _ _ hp2.c0 (by kernel_rfl) rfl (pace_one _ _) ?_; replace hp2 := hp2.row (p' := k) (d' := 0); generalize W2.setRow w.heap.size #[.int .i64 k, .int .i64 0] = W3 at hp2 ⊢)
        | (refine wpList_load_row rfl 65 (.tmp 3) rfl _ rfl _ _ _ _ hp2.c0 Try.underlying65 rfl (by kernel_rfl) ?_)
        | (refine wpList_store_row rfl 65 (.tmp 6) (.tmp 38) rfl _ #[.int .i64 k, .int .i64 0] rfl rfl _ _ hp2.c2 (by kernel_rfl) rfl (pace_one _ _) ?_))
      exact bodyPost_ret (v := .agg #[.int .i64 k, .int .i64 0]) (results_cell_row rfl _ _ (w.heap.size + 1 + 1) _ _ _ _ rfl (setRow_heap _ _ _ _ _ _ hp2.c2) Try.underlying65 rfl (by kernel_rfl)) rfl ⟨by rw [HR.out], below_setRow hp2.bw (by omega) _⟩
    · have HR : Hid (pNext x c false = (p, n)) := Lib.hid (by rw [HN.out]; simp only [pStep, Bool.false_eq_true, if_false, if_neg h, ← En])
      have HF : Hid (decide (30 < -n) = false) := Lib.hid (decide_eq_false (by omega))
      clear h HN En
      go_enter Try.func54, Try.ntmps54
      go_wp2_with (first
        | (with_reducible refine (HH.out _).mono ?_; rintro e w1 ⟨rfl, hb1⟩; have hp := PN.start hb1; clear hb1; obtain ⟨wq, rfl⟩ : ∃ wq : World, wq = w1 := ⟨_, rfl⟩)
        | (refine wpList_store_row rfl 65 (.tmp 3) (.tmp 12) rfl _ #[.int .i64 p, .int .i64 d] rfl rfl _ _ hp.c0 (by kernel_rfl) rfl (pace_one _ _) ?_; replace hp := hp.row (p' := p) (d' := d); generalize wq.setRow w.heap.size #[.int .i64 p, .int .i64 d] = W1 at hp ⊢; have q0 : W1.cell? ⟨w.heap.size, 0, none⟩ = some (.int .i64 p) := cell_of_heap' (o := 0) hp.c0 rfl; have q1 : W1.cell? ⟨w.heap.size, 1, none⟩ = some (.int .i64 d) := cell_of_heap' (o := 1) hp.c0 rfl; have g1 : W1.frozen? ⟨w.heap.size, 1, none⟩ = false := free_of_heap' (o := 1) hp.c0; have hlt : w.heap.size < W1.heap.size := by have := hp.sz; omega)
        | (with_reducible refine (HB.out _).mono ?_; rintro e w1 ⟨rfl, rfl⟩)
        | (go_at_call 105; rw [HE.out]; obtain ⟨W2, hW, hp2, hu⟩ := hp.turn n (-1); rw [hW]; clear hW hp q0 q1 g1; have q0 : W2.cell? ⟨w.heap.size, 0, none⟩ = some (.int .i64 p) := cell_of_heap' (o := 0) hp2.c0 rfl; have q1 : W2.cell? ⟨w.heap.size, 1, none⟩ = some (.int .i64 n) := cell_of_heap' (o := 1) hp2.c0 rfl; have q7 : W2.cell? ⟨w.heap.size + 1, 7, none⟩ = some (.int .i64 6) := cell_of_heap' (o := 7) hp2.c1 rfl; have q8 : W2.cell? ⟨w.heap.size + 1, 8, none⟩ = some (.int .i64 10) := cell_of_heap' (o := 8) hp2.c1 rfl; refine (turn_any w.heap.size W1.heap.size n (-1) _ W2 q1 hu hw).mono ?_; rintro e w2 ⟨rfl, rfl⟩; rw [HF.out])
        | (refine wpList_load_row rfl 65 (.tmp 3) rfl _ rfl _ _ _ _ hp2.c0 Try.underlying65 rfl (by kernel_rfl) ?_)
        | (refine wpList_store_row rfl 65 (.tmp 6) (.tmp 38) rfl _ #[.int .i64 p, .int .i64 n] rfl rfl _ _ hp2.c2 (by kernel_rfl) rfl (pace_one _ _) ?_))
      exact bodyPost_ret (v := .agg #[.int .i64 p, .int .i64 n]) (results_cell_row rfl _ _ (w.heap.size + 1 + 1) _ _ _ _ rfl (setRow_heap _ _ _ _ _ _ hp2.c2) Try.underlying65 rfl (by kernel_rfl)) rfl ⟨by rw [HR.out], below_setRow hp2.bw (by omega) _⟩
/-- three blocks laid in a row -/
theorem three_rows (w : World) (A B C : Obj) : ∃ W, Hid (((w.alloc A).alloc B).alloc C = W) ∧ (W.heap[w.heap.size]? = some A ∧ W.heap[w.heap.size + 1]? = some B ∧ W.heap[w.heap.size + 1 + 1]? = some C) ∧ Below w.heap.size w W := by
  have h3 := (Below.refl _ ((w.alloc A).alloc B)).alloc (Nat.le_refl _) C
  have h2 := (Below.refl _ (w.alloc A)).alloc (Nat.le_refl _) B
  refine ⟨_, Lib.hid rfl, ⟨?_, ?_, heap_alloc3_new w A B C⟩, balloc (balloc (balloc (Below.refl _ _) _) _) _⟩
  · rw [h3.block _ (by simp; omega), h2.block _ (by simp)]; exact heap_alloc_new _ _
  · rw [h3.block _ (by simp)]; exact heap_alloc2_new _ _ _
set_option maxHeartbeats 1000000 in
theorem nextp_any (x c o j : Int) (o0 : -9223372036854775808 ≤ o) (o1 : o ≤ 9223372036854775807) (j0 : -9223372036854775808 ≤ j) (j1 : j ≤ 9223372036854775807) (w : World) :
    Calls Try.prog 35 #[.agg stdP, .agg #[.int .i64 x, .int .i64 c], .int .i64 o, .int .i64 j] w fun e w' => e = .returned (.agg #[.int .i64 (pNext x c (pQuiet o j)).1, .int .i64 (pNext x c (pQuiet o j)).2]) ∧ Below w.heap.size w w' := by
  have HQ := Lib.hid (quiet_any o j o0 o1 j0 j1)
  have HN := Lib.hid (next_any x c (pQuiet o j))
  generalize pQuiet o j = q at HQ HN ⊢
  generalize (pNext x c q).1 = y at HN ⊢
  generalize (pNext x c q).2 = d at HN ⊢
  go_enter Try.func35, Try.ntmps35
  go_wp2_with fail
  obtain ⟨W, HW, HB, BB⟩ := three_rows w (.cells stdP 26) (.cells #[.int .i64 x, .int .i64 c] 65) (.cells #[.int .i64 0, .int .i64 0] 65)
  rw [HW.out]
  refine wp_region_below_tail 7 (by kernel_rfl) (by kernel_rfl) ?_
  simp only [List.take_succ_cons, List.take_zero, List.drop_succ_cons, List.drop_zero]
  refine wpQuiet_load_row rfl 65 (.tmp 5) rfl _ rfl _ _ _ _ (row_regrown HB.2.1) Try.underlying65 rfl (by kernel_rfl) ?_
  refine wpQuiet_load_row rfl 26 (.tmp 4) rfl _ rfl _ _ _ _ (row_regrown HB.1) Try.underlying26 rfl (by kernel_rfl) ?_
  refine wpQuiet_load_row rfl 26 (.tmp 4) rfl _ rfl _ _ _ _ (row_regrown HB.1) Try.underlying26 rfl (by kernel_rfl) ?_
  repeat (quiet_step (first | (with_reducible refine Calls.regrown_of (HQ.out _)) | (with_reducible refine Calls.regrown_of (HN.out _))))
  refine wpQuiet_nil ?_
  rintro _ ⟨p, rfl⟩
  have H2 := Lib.hid (row_regrown HB.2.2 _ ⟨p, rfl⟩)
  have hb2 := bnext BB (below_regrown W p.d p.os)
  generalize Sort.grow (redrawn W p.d) p.os = W2 at hb2 H2 ⊢
  clear HW HB BB
  go_wp2_with (refine wpList_store_row rfl 65 (.tmp 8) (.tmp 15) rfl _ #[.int .i64 y, .int .i64 d] rfl rfl _ _ H2.out (by kernel_rfl) rfl (pace_one _ _) ?_)
  exact bodyPost_ret (v := .agg #[.int .i64 y, .int .i64 d]) (results_cell_row rfl _ _ (w.heap.size + 1 + 1) _ _ _ _ rfl (setRow_heap _ _ _ _ _ _ H2.out) Try.underlying65 rfl (by kernel_rfl)) rfl ⟨rfl, below_setRow hb2 (by omega) _⟩
theorem quiet_shown : pQuiet 0 4294967296 = true := by decide +kernel
set_option maxHeartbeats 1000000 in
theorem shown20 (w : World) : Calls Try.prog 33 #[] w fun e w' => e = .returned (.bool true) ∧ Below w.heap.size w w' := by
  have HN := Lib.hid (nextp_any 6 28 0 4294967296 (by decide) (by decide) (by decide) (by decide))
  rw [quiet_shown, show pNext 6 28 true = (7, 0) from rfl] at HN
  have hfd : ∀ w : World, (Instr.field 65 (.agg #[.int .i64 6, .int .i64 0]) 0).run Try.prog w = .ok (.int .i64 6) w := fun _ => by kernel_rfl
  go_enter Try.func33, Try.ntmps33
  go_wp2_with (first | (with_reducible refine (standard20 _).mono ?_; rintro e w1 ⟨rfl, hb1⟩) | (with_reducible refine (HN.out _).mono ?_; rintro e w2 ⟨rfl, hb2⟩) | (with_reducible refine (start_any _).mono ?_; rintro e w3 ⟨rfl, hb3⟩))
  rename_i v1 hv1
  go_ret
  exact ⟨ret_bool (by simp), bnext (bnext (balloc (bnext hv1 hb2) _) hb1) hb3⟩
end Go.Proofs.Ytmgfnejiienghaa
/- A region that draws, part of it through already: of its head's operations those that are left read, or call quietly; what is left behind them is in one order. -/
namespace Go.Proofs.Ytmgfnejiienghaa
open Go Go.RowKit Go.Sort

section
variable {P : Program} {ops : Array Oper} {md : Region.Mode} {C : World → Prop}

/-- each of these is waited for by a later one of these, or by the first one behind the head -/
def sinkIs (md : Region.Mode) (ops : Array Oper) (n : Nat) (is : List Nat) : Bool :=
  is.all fun i => decide (i < n) && (n :: is).any fun j => decide (i < j) && Region.waitsFor md ops j i
/-- these in this order, then the rest in its one order -/
def lexIs (md : Region.Mode) (ops : Array Oper) (g n : Nat) : List Nat → Array Bool → Bool
  | [], listed => Region.seqB md ops g n listed
  | k :: is, listed => (Region.ready md ops listed).contains k && Region.free md ops listed k && lexIs md ops g n is (listed.setIfInBounds k true)
/-- what is left of the head is among these -/
def leftIn (n : Nat) (is : List Nat) (listed : Array Bool) : Prop := ∀ i, i < n → listed.getD i true = false → i ∈ is
theorem leftIn.set {n : Nat} {is : List Nat} {listed : Array Bool} (h : leftIn n is listed) (j : Nat) : leftIn n is (listed.setIfInBounds j true) := fun i hi hl => by
  by_cases hij : j = i
  · subst hij
    rcases Nat.lt_or_ge j listed.size with hs | hs
    · simp [hs] at hl
    · simp [Array.getD] at hl
  · rw [getD_set_ne true hij] at hl
    exact h i hi hl
theorem late_waits {n : Nat} {is : List Nat} {listed : Array Bool} (hs : sinkIs md ops n is = true) (hc : Region.chainB md ops n = true) (hn : n < ops.size) (inv : HeadInv md ops n listed) (hin : leftIn n is listed) :
    ∀ (d i : Nat), n - i = d → i < n → listed.getD i true = false → ∀ t, n ≤ t → t ∉ Region.ready md ops listed := by
  intro d
  induction d using Nat.strongRecOn with
  | _ d ih =>
    intro i hd hi hun t ht hr
    obtain ⟨_, ot, hot, hall⟩ := mem_ready.1 hr
    have htlt : t < ops.size := (Array.getElem?_eq_some_iff.1 hot).1
    by_cases htn : t = n
    · subst htn
      have h1 := List.all_eq_true.1 hs i (hin i hi hun)
      simp only [Bool.and_eq_true, decide_eq_true_eq] at h1
      obtain ⟨j, hj, hj2⟩ := List.any_eq_true.1 h1.2
      simp only [Bool.and_eq_true, decide_eq_true_eq] at hj2
      obtain ⟨oj, hoj, e, he, hb, hon⟩ := Region.waitsFor_spec hj2.2
      by_cases hjt : j = t
      · subst hjt
        have : oj = ot := Option.some.inj (hoj.symm.trans hot)
        subst this
        have h2 := hall e he hb
        rw [hon, getD_both hun] at h2
        cases h2
      · have hjm : j ∈ is := by
          rcases List.mem_cons.1 hj with h | h
          · exact absurd h hjt
          · exact h
        have hjn : j < t := by
          have := List.all_eq_true.1 hs j hjm
          simp only [Bool.and_eq_true, decide_eq_true_eq] at this
          exact this.1
        cases hl : listed.getD j false with
        | true =>
          have h2 := inv.closed j oj hoj hl e he hb
          rw [hon, getD_both hun] at h2
          cases h2
        | false =>
          have hjs : j < listed.size := by rw [inv.size]; omega
          exact ih (t - j) (by omega) j rfl (by omega) (getD_in hjs hl) t (Nat.le_refl _) hr
    · have h1 := List.all_eq_true.1 hc t (List.mem_range.2 htlt)
      simp only [Bool.or_eq_true, decide_eq_true_eq] at h1
      rcases h1 with h1 | h1
      · omega
      · obtain ⟨o', ho', e, he, hb, hon⟩ := Region.waitsFor_spec h1
        have : o' = ot := Option.some.inj (ho'.symm.trans hot)
        subst this
        have h2 := hall e he hb
        rw [hon, getD_both (inv.tail (t - 1) (by omega) (by omega))] at h2
        cases h2

theorem late_first {n i : Nat} {is : List Nat} {oi : Oper} {v : Value} {L : Array Bool → Act → Prop} (hi : ops[i]? = some oi) (hsel : ∀ (j : Nat) (o : Oper) cs b, ops[j]? = some o → o.op ≠ .select cs b)
    (hs : sinkIs md ops n is = true) (hc : Region.chainB md ops n = true) (hn : n < ops.size) (hin : i < n)
    (hdone : ∀ listed a, L listed a → ∀ j ∈ Region.ready md ops listed, n ≤ j) :
    ∀ (f : Nat) (listed : Array Bool) (a : Act), HeadInv md ops n listed → leftIn n is listed →
      (∀ j oj, ops[j]? = some oj → j ≠ i → listed.getD j true = false → (∀ e ∈ oj.after, Region.binds md e = true → e.on ≠ i) → oi.apart ops oj = true) →
      i ∈ Region.ready md ops listed → YieldsIn P ops C oi v a →
      HeadQ P md ops C n L f (listed.setIfInBounds i true) (a.put oi.dst v) → HeadQ P md ops C n L (f + 1) listed a := by
  intro f
  induction f with
  | zero =>
    intro listed a inv hli _ hr hy H
    have hun := (mem_ready.1 hr).1
    refine ⟨fun h => (by rw [h] at hr; cases hr), fun j hj => ?_⟩
    have hjn : j < n := Nat.lt_of_not_le fun h => late_waits hs hc hn inv hli _ i rfl hin hun j h hj
    refine ⟨hjn, ?_⟩
    by_cases hji : j = i
    · subst hji; exact hy.qOp hi H
    · have := hdone _ _ H j (ready_mono hj hji)
      omega
  | succ f ih =>
    intro listed a inv hli hfree hr hy H
    have hun := (mem_ready.1 hr).1
    refine ⟨fun h => (by rw [h] at hr; cases hr), fun j hj => ?_⟩
    have hjn : j < n := Nat.lt_of_not_le fun h => late_waits hs hc hn inv hli _ i rfl hin hun j h hj
    refine ⟨hjn, ?_⟩
    by_cases hji : j = i
    · subst hji; exact hy.qOp hi H
    · have h1 := (H.2 j (ready_mono hj hji)).2
      obtain ⟨hjun, oj, hoj, hall⟩ := mem_ready.1 hj
      have hnot : ∀ e ∈ oj.after, Region.binds md e = true → e.on ≠ i := fun e he hb heq => by
        have h1 := hall e he hb
        rw [heq, getD_both hun] at h1
        cases h1
      have h2 := qOp_put hoj (hfree j oj hoj hji hjun hnot) (fun cs b => hsel i oi cs b hi) (fun cs b => hsel j oj cs b hoj) hy h1
      have hfree' : ∀ k ok, ops[k]? = some ok → k ≠ i → (listed.setIfInBounds j true).getD k true = false →
          (∀ e ∈ ok.after, Region.binds md e = true → e.on ≠ i) → oi.apart ops ok = true := fun k ok hk hki hun' hno => by
        refine hfree k ok hk hki ?_ hno
        by_cases hjk : j = k
        · subst hjk; exact hjun
        · rw [getD_set_ne true hjk] at hun'; exact hun'
      refine qOp_mono (fun a' h3 => ih (listed.setIfInBounds j true) a' (inv.set hj hjn) (hli.set j) hfree' (ready_mono hr (Ne.symm hji)) h3.1 ?_) h2
      rw [Array.setIfInBounds_comm _ _ hji]
      exact h3.2

theorem late_lex {n g : Nat} {Lq : Act → Prop} (hsel : Region.noSelect ops = true) (is0 : List Nat) (hs : sinkIs md ops n is0 = true) (hc : Region.chainB md ops n = true) (hn : n < ops.size) :
    ∀ (is : List Nat) (listed : Array Bool) (a : Act), (∀ k ∈ is, k < n) → HeadInv md ops n listed → leftIn n is0 listed →
    lexIs md ops g n is listed = true → wpQuiet P ops C Lq (is.filterMap fun i => ops[i]?) a →
    HeadQ P md ops C n (fun listed' a' => Region.seqB md ops g n listed' = true ∧ Lq a') is.length listed a
  | [], listed, a, _, _, _, hB, h => ⟨hB, h⟩
  | k :: is, listed, a, hl, inv, hli, hB, h => by
    have hkn : k < n := hl k (by simp)
    obtain ⟨o, h0⟩ : ∃ o, ops[k]? = some o := ⟨_, Array.getElem?_eq_getElem (by omega)⟩
    simp only [lexIs, Bool.and_eq_true] at hB
    obtain ⟨⟨hr, hf⟩, hB'⟩ := hB
    have hr' : k ∈ Region.ready md ops listed := by simpa using hr
    rw [List.filterMap_cons_some h0] at h
    have hst : qOp P ops C k (wpQuiet P ops C Lq (is.filterMap fun i => ops[i]?)) a := by unfold qOp; simp only [h0]; exact h
    obtain ⟨v, hy, hK⟩ := yieldsIn_of_qOp h0 hst
    exact late_first h0 (Region.noSelect_spec hsel) hs hc hn hkn (fun listed' a' hL => seqB_ready hL.1) is.length listed a inv hli (Region.free_spec h0 hf) hr' hy
      (late_lex hsel is0 hs hc hn is _ _ (fun j hj => hl j (by simp [hj])) (inv.set hr' hkn) (hli.set k) hB' hK)

/-- what the region's form must show, as one Bool -/
def lateB (ops : Array Oper) (n : Nat) (is : List Nat) (listed : Array Bool) : Bool :=
  Region.noSelect ops && decide (n < ops.size) && sinkIs .any ops n is && Region.chainB .any ops n && is.all (fun k => decide (k < n)) && decide (listed.size = ops.size)
  && (List.range ops.size).all (fun j => !listed.getD j false || (match ops[j]? with | some oj => oj.after.all fun e => !Region.binds .any e || listed.getD e.on false | none => true))
  && (List.range ops.size).all (fun t => decide (t < n) || !listed.getD t true)
  && (List.range n).all (fun i => listed.getD i true || is.contains i)
  && lexIs .any ops (ops.size - n) n is listed

theorem wpAny_below_from {Q : Exit → Act → World → Prop} {a : Act} {w : World} (n : Nat) (is : List Nat) (listed : Array Bool) (f : Nat) (hf : f = is.length + (ops.size - n)) (hB : lateB ops n is listed = true) (hw : C w)
    (h : wpQuiet P ops C (fun a' => ∀ w', C w' → wpList P ops Q (ops.toList.drop n) a' w') (is.filterMap fun i => ops[i]?) a) : wpAny P .any ops Q f listed a w := by
  simp only [lateB, Bool.and_eq_true, decide_eq_true_eq] at hB
  obtain ⟨⟨⟨⟨⟨⟨⟨⟨⟨hsel, hn⟩, hs⟩, hc⟩, hlt⟩, hsz⟩, hcl⟩, htl⟩, hli⟩, hlex⟩ := hB
  have inv0 : HeadInv .any ops n listed := by
    refine ⟨hsz, fun j oj hj hl e he hb => ?_, fun t ht htt => ?_⟩
    · have h1 := List.all_eq_true.1 hcl j (List.mem_range.2 (Array.getElem?_eq_some_iff.1 hj).1)
      rw [hj, hl] at h1
      simp only [Bool.not_true, Bool.false_or] at h1
      have h2 := Array.all_eq_true'.1 h1 e he
      rw [hb] at h2
      simpa using h2
    · have h1 := List.all_eq_true.1 htl t (List.mem_range.2 htt)
      simp only [Bool.or_eq_true, decide_eq_true_eq, Bool.not_eq_true'] at h1
      rcases h1 with h1 | h1
      · omega
      · exact h1
  have hli0 : leftIn n is listed := fun i hi hl => by
    have h1 := List.all_eq_true.1 hli i (List.mem_range.2 hi)
    rw [hl] at h1
    simpa using h1
  have H := late_lex (md := .any) (g := ops.size - n) hsel is hs hc hn is listed a (fun k hk => by simpa using List.all_eq_true.1 hlt k hk) inv0 hli0 hlex h
  rw [hf]
  have hdl : (ops.toList.drop n).length = ops.size - n := by simp
  exact wpAny_of_headQ (Q' := Q) (g := ops.size - n) (fun listed a' w' hw' hL => by
    rw [← hdl]
    exact wpAny_of_seq (ops.toList.drop n) n listed a' w' (fun j => by simp) (by rw [hdl]; exact hL.1) (hL.2 w' hw')) _ _ _ w hw H
end
end Go.Proofs.Ytmgfnejiienghaa
