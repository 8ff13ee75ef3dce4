/- The walks over package wide: halves, Mul. -/
import Derived.Test.YtmgfnejiienghaaM1
import Derived.Test.YtmgfnejiienghaaProg
import Derived.Test.YtmgfnejiienghaaM2
import Derived.Deep.RegionHeld3
import Derived.Deep.DeepCutAuto
import Derived.BigQuiet
namespace Go.Proofs.Ytmgfnejiienghaa
open Go.RowKit Go.IntWalk
set_option linter.unusedVariables false
set_option maxRecDepth 100000

theorem u64_join32 (x y : Int) (hx0 : 0 ≤ x) (hx : x % 4294967296 = 0) (hx1 : x < 18446744073709551616) (hy0 : 0 ≤ y) (hy : y < 4294967296) : bits .or .u64 x y = x + y := u64_join 32 (by decide) x y hx0 hx hx1 hy0 hy
theorem u64_and32 (x : Int) (h0 : 0 ≤ x) (h1 : x < 18446744073709551616) : bits .and .u64 x 4294967295 = x % 4294967296 := u64_mask 32 (by decide) x h0 h1
set_option maxHeartbeats 400000 in
theorem halves_any (a : Int) (h0 : 0 ≤ a) (h1 : a < 18446744073709551616) (w : World) :
    Calls Try.prog 123 #[.int .u64 a] w fun e w' => e = .returned (.agg #[.int .u64 (a % 4294967296), .int .u64 (a / 4294967296)]) ∧ Below w.heap.size w w' := by
  have hm := u64_and32 a h0 h1
  go_enter Try.func123, Try.ntmps123
  go_wp2
  exact bodyPost_ret (v := .agg #[.int .u64 (a % 4294967296), .int .u64 (a / 4294967296)]) (by simp [results, Try.results123, go_sem]) rfl ⟨rfl, (Below.refl _ _).alloc (Nat.le_refl _) _⟩

theorem bcell' {W w1 : World} (hb : Below W.heap.size W w1) : (∀ b o, b < W.heap.size → w1.cell? ⟨b, o, none⟩ = W.cell? ⟨b, o, none⟩) ∧ (∀ b o, b < W.heap.size → w1.frozen? ⟨b, o, none⟩ = W.frozen? ⟨b, o, none⟩) :=
  ⟨fun b o h => hb.cell (p := ⟨b, o, none⟩) h, fun b o h => hb.frozen (p := ⟨b, o, none⟩) h⟩
/-- a region that draws: its first n operations read; what is left is in one order -/
theorem wp_region_tailW {P : Program} {id : Nat} {Q : Exit → Act → World → Prop} {a : Act} {w : World} {l : List Oper} (n : Nat) (hm : P.follows .mixedOrders = true) (hB : Region.lexTailB .any l.toArray n = true)
    (h : wpStill P l.toArray w.drew (fun a' => wpList P l.toArray Q (l.drop n) a' w.drew) (l.take n) a) : (Code.region id l.toArray true).wp P Q a w :=
  wp_region_still_tail n hm hB h
theorem two_set (wq W w' : World) (T : TypeId) (a b u v : Value) (hW : W.heap = wq.heap.push (.cells #[a, b] T)) (hos : W.os = wq.os) (ht : W.tape = wq.tape) (ho : W.output = wq.output) (h : Below W.heap.size W w') :
    ((w'.setCell ⟨wq.heap.size, 0, none⟩ u).setCell ⟨wq.heap.size, 1, none⟩ v).heap[wq.heap.size]? = some (.cells #[u, v] T (0, 0)) ∧ Below wq.heap.size wq ((w'.setCell ⟨wq.heap.size, 0, none⟩ u).setCell ⟨wq.heap.size, 1, none⟩ v) := by
  have hs : W.heap.size = wq.heap.size + 1 := by rw [hW]; simp
  have hb : w'.heap[wq.heap.size]? = some (.cells #[a, b] T (0, 0)) := by
    rw [h.block _ (by omega), hW]; simp
  have hbw : Below wq.heap.size wq w' := ⟨h.os.trans hos, h.tape.trans ht, h.output.trans ho, by have := h.size; omega, fun k hk => by
    rw [h.block k (by omega), hW, Array.getElem?_push, if_neg (by omega)]⟩
  refine ⟨?_, (hbw.setCell (p := ⟨wq.heap.size, 0, none⟩) (Nat.le_refl _) u).setCell (p := ⟨wq.heap.size, 1, none⟩) (Nat.le_refl _) v⟩
  have h1 := heap_setCell_same w' wq.heap.size 0 #[a, b] T u hb
  exact heap_setCell_same _ wq.heap.size 1 _ T v h1
theorem cell_set_ne (w : World) {b o b' o' : Nat} (v : Value) (h : b ≠ b') : (w.setCell ⟨b', o', none⟩ v).cell? ⟨b, o, none⟩ = w.cell? ⟨b, o, none⟩ := by
  simp only [World.cell?]
  rw [Below.heap_setCell _ _ _ _ h]
/-- the sums behind m of the four products -/
def mulS (p q r s : Int) : Nat → Array Value
  | 0 => #[.int .u64 0, .int .u64 0, .int .u64 0, .int .u64 0]
  | 1 => #[.int .u64 (p % 4294967296), .int .u64 (p / 4294967296), .int .u64 0, .int .u64 0]
  | 2 => #[.int .u64 (p % 4294967296), .int .u64 (p / 4294967296 + q % 4294967296), .int .u64 (q / 4294967296), .int .u64 0]
  | 3 => #[.int .u64 (p % 4294967296), .int .u64 (p / 4294967296 + q % 4294967296 + r % 4294967296), .int .u64 (q / 4294967296 + r / 4294967296), .int .u64 0]
  | _ => #[.int .u64 (p % 4294967296), .int .u64 (p / 4294967296 + q % 4294967296 + r % 4294967296), .int .u64 (q / 4294967296 + r / 4294967296 + s % 4294967296), .int .u64 (s / 4294967296)]
/-- what holds of memory behind m products: B is the block of the first halves -/
structure MulM (x0 x1 y0 y1 : Int) (B m : Nat) (w wr : World) : Prop where
  cx : wr.heap[B]? = some (.cells #[.int .u64 x0, .int .u64 x1] 155 (0, 0))
  cy : wr.heap[B + 1]? = some (.cells #[.int .u64 y0, .int .u64 y1] 155 (0, 0))
  cs : wr.heap[B + 2]? = some (.cells (mulS (x0 * y0) (x0 * y1) (x1 * y0) (x1 * y1) m) 157 (0, 0))
  hz : B + 2 < wr.heap.size
  hb : Below w.heap.size w wr
  hB : w.heap.size ≤ B
theorem MulM.drew {x0 x1 y0 y1 : Int} {B m : Nat} {w wr : World} (h : MulM x0 x1 y0 y1 B m w wr) : MulM x0 x1 y0 y1 B m w wr.drew := ⟨h.cx, h.cy, h.cs, h.hz, h.hb.drew, h.hB⟩
theorem MulM.step {x0 x1 y0 y1 : Int} {B m n k : Nat} {w wq wc : World} {u v : Value} (h : MulM x0 x1 y0 y1 B m w wq) (hb : Below wq.heap.size wq wc)
    (hs : ((mulS (x0 * y0) (x0 * y1) (x1 * y0) (x1 * y1) m).setIfInBounds k u).setIfInBounds (k + 1) v = mulS (x0 * y0) (x0 * y1) (x1 * y0) (x1 * y1) n) :
    MulM x0 x1 y0 y1 B n w ((wc.setCell ⟨B + 1 + 1, k, none⟩ u).setCell ⟨B + 1 + 1, k + 1, none⟩ v) := by
  have hz := h.hz
  have hzc := hb.size
  have hS : wc.heap[B + 2]? = some (.cells (mulS (x0 * y0) (x0 * y1) (x1 * y0) (x1 * y1) m) 157 (0, 0)) := by rw [hb.block _ (by omega)]; exact h.cs
  have h1 := heap_setCell_same wc (B + 2) k _ _ u hS
  have h2 := heap_setCell_same _ (B + 2) (k + 1) _ _ v h1
  rw [hs] at h2
  refine ⟨?_, ?_, h2, by simp [World.setCell]; omega, ((h.hb.trans (hb.mono (by have := h.hb.size; omega))).setCell (p := ⟨B + 1 + 1, k, none⟩) (by have := h.hB; show _ ≤ B + 1 + 1; omega) u).setCell (p := ⟨B + 1 + 1, k + 1, none⟩) (by have := h.hB; show _ ≤ B + 1 + 1; omega) v, h.hB⟩
  · rw [Below.heap_setCell _ _ _ _ (by show B ≠ B + 1 + 1; omega), Below.heap_setCell _ _ _ _ (by show B ≠ B + 1 + 1; omega), hb.block _ (by omega)]; exact h.cx
  · rw [Below.heap_setCell _ _ _ _ (by show B + 1 ≠ B + 1 + 1; omega), Below.heap_setCell _ _ _ _ (by show B + 1 ≠ B + 1 + 1; omega), hb.block _ (by omega)]; exact h.cy
theorem prod_lt {x y : Int} (hx0 : 0 ≤ x) (hx1 : x < 4294967296) (hy0 : 0 ≤ y) (hy1 : y < 4294967296) : 0 ≤ x * y ∧ x * y ≤ 18446744065119617025 := by
  constructor
  · exact Int.mul_nonneg hx0 hy0
  · calc x * y ≤ 4294967295 * y := Int.mul_le_mul_of_nonneg_right (by omega) hy0
      _ ≤ 4294967295 * 4294967295 := Int.mul_le_mul_of_nonneg_left (by omega) (by omega)
      _ = 18446744065119617025 := by decide
theorem cell_of_heap' {w : World} {b o : Nat} {c : Array Value} {t : TypeId} {f : Nat × Nat} {v : Value} (h : w.heap[b]? = some (.cells c t f)) (hv : c[o]? = some v) : w.cell? ⟨b, o, none⟩ = some v := by simp [World.cell?, h, hv]
theorem free_of_heap' {w : World} {b o : Nat} {c : Array Value} {t : TypeId} (h : w.heap[b]? = some (.cells c t (0, 0))) : w.frozen? ⟨b, o, none⟩ = false := by simp [World.frozen?, h]

theorem cells_step {w : World} {b o : Nat} {c c' : Array Value} {t : TypeId} {v : Value} (h : w.heap[b]? = some (.cells c t (0, 0))) (hc : c.setIfInBounds o v = c') : (w.setCell ⟨b, o, none⟩ v).heap[b]? = some (.cells c' t (0, 0)) := by
  rw [← hc]; exact heap_setCell_same w b o c t v h
theorem heap_drew3 {w : World} {b : Nat} {x : Option _} (h : w.heap[b]? = x) : w.drew.drew.drew.heap[b]? = x := h
/-- the digits of a product, out of the four small ones -/
theorem mul_plain (a b x0 x1 y0 y1 : Int) (ha : a = x1 * 4294967296 + x0) (hb : b = y1 * 4294967296 + y0) (ha0 : 0 ≤ a) (ha1 : a < 18446744073709551616) (hb0 : 0 ≤ b) (hb1 : b < 18446744073709551616)
    (p0 : 0 ≤ x0 * y0) (q0 : 0 ≤ x0 * y1) (r0 : 0 ≤ x1 * y0) (s0 : 0 ≤ x1 * y1) (c0 c1 c2 c3 d1 e2 d2 e3 r1 r2 : Int)
    (E0 : x0 * y0 % 4294967296 = c0) (E1 : x0 * y0 / 4294967296 + x0 * y1 % 4294967296 + x1 * y0 % 4294967296 = c1) (E2 : x0 * y1 / 4294967296 + x1 * y0 / 4294967296 + x1 * y1 % 4294967296 = c2) (E3 : x1 * y1 / 4294967296 = c3)
    (D1 : c1 / 4294967296 = d1) (R1 : c1 % 4294967296 = r1) (F2 : c2 + d1 = e2) (D2 : e2 / 4294967296 = d2) (R2 : e2 % 4294967296 = r2) (F3 : c3 + d2 = e3) :
    e3 < 4294967296 ∧ e3 * 4294967296 + r2 = a * b / 18446744073709551616 ∧ r1 * 4294967296 + c0 = a * b % 18446744073709551616 := by
  have hab : a * b = x1 * y1 * 18446744073709551616 + (x0 * y1 + x1 * y0) * 4294967296 + x0 * y0 := by
    subst ha hb
    rw [Int.add_mul, Int.mul_add, Int.mul_add]
    have e1 : x1 * 4294967296 * (y1 * 4294967296) = x1 * y1 * 18446744073709551616 := by
      rw [Int.mul_assoc, Int.mul_left_comm 4294967296 y1 4294967296, ← Int.mul_assoc]; rfl
    have e2 : x1 * 4294967296 * y0 = x1 * y0 * 4294967296 := Int.mul_right_comm _ _ _
    have e3 : x0 * (y1 * 4294967296) = x0 * y1 * 4294967296 := (Int.mul_assoc _ _ _).symm
    rw [e1, e2, e3, Int.add_mul]
    omega
  have hlt : a * b < 340282366920938463463374607431768211456 := by
    calc a * b ≤ 18446744073709551615 * b := Int.mul_le_mul_of_nonneg_right (by omega) hb0
      _ ≤ 18446744073709551615 * 18446744073709551615 := Int.mul_le_mul_of_nonneg_left (by omega) (by decide)
      _ < 340282366920938463463374607431768211456 := by decide
  rw [hab] at hlt ⊢
  generalize x0 * y0 = p at *
  generalize x0 * y1 = q at *
  generalize x1 * y0 = r at *
  generalize x1 * y1 = s at *
  clear hab
  subst E0 E1 E2 E3 D1 R1 F2 D2 R2 F3
  refine ⟨?_, ?_, ?_⟩ <;> omega

set_option maxHeartbeats 3000000 in
theorem mul_any (a b : Int) (ha0 : 0 ≤ a) (ha1 : a < 18446744073709551616) (hb0 : 0 ≤ b) (hb1 : b < 18446744073709551616) (w : World) :
    Calls Try.prog 102 #[.int .u64 a, .int .u64 b] w fun e w' => e = .returned (.tuple #[.int .u64 (a * b / 18446744073709551616), .int .u64 (a * b % 18446744073709551616)]) ∧ Below w.heap.size w w' := by
  go_enter Try.func102, Try.ntmps102
  go_wp2_with fail
  refine (halves_any a ha0 ha1 w).mono ?_
  rintro e w1 ⟨rfl, hb1'⟩
  go_wp2_with fail
  refine (halves_any b hb0 hb1 w1).mono ?_
  rintro e w2 ⟨rfl, hb2⟩
  have hx0 : 0 ≤ a % 4294967296 ∧ a % 4294967296 < 4294967296 := by omega
  have hx1 : 0 ≤ a / 4294967296 ∧ a / 4294967296 < 4294967296 := by omega
  have hy0 : 0 ≤ b % 4294967296 ∧ b % 4294967296 < 4294967296 := by omega
  have hy1 : 0 ≤ b / 4294967296 ∧ b / 4294967296 < 4294967296 := by omega
  have hA : a = a / 4294967296 * 4294967296 + a % 4294967296 := by omega
  have hB' : b = b / 4294967296 * 4294967296 + b % 4294967296 := by omega
  have hlnk : ∃ x0 x1 y0 y1, a % 4294967296 = x0 ∧ a / 4294967296 = x1 ∧ b % 4294967296 = y0 ∧ b / 4294967296 = y1 ∧ a = x1 * 4294967296 + x0 ∧ b = y1 * 4294967296 + y0 := ⟨_, _, _, _, rfl, rfl, rfl, rfl, hA, hB'⟩
  clear hA hB'
  obtain ⟨x0, x1, y0, y1, l0, l1, l2, l3, l4, l5⟩ := hlnk
  rw [l0] at hx0 ⊢
  rw [l1] at hx1 ⊢
  rw [l2] at hy0 ⊢
  rw [l3] at hy1 ⊢
  clear l0 l1 l2 l3
  have HA := Lib.hid l4
  have HB := Lib.hid l5
  clear l4 l5
  obtain ⟨hx00, hx01⟩ := hx0
  obtain ⟨hx10, hx11⟩ := hx1
  obtain ⟨hy00, hy01⟩ := hy0
  obtain ⟨hy10, hy11⟩ := hy1
  obtain ⟨p0, p1⟩ := prod_lt hx00 hx01 hy00 hy01
  obtain ⟨q0, q1⟩ := prod_lt hx00 hx01 hy10 hy11
  obtain ⟨r0, r1⟩ := prod_lt hx10 hx11 hy00 hy01
  obtain ⟨s0, s1⟩ := prod_lt hx10 hx11 hy10 hy11
  have wp := u64_in (x0 * y0) (by omega)
  have wq' := u64_in (x0 * y1) (by omega)
  have wr' := u64_in (x1 * y0) (by omega)
  have ws := u64_in (x1 * y1) (by omega)
  go_wp2_with fail
  have hM : MulM x0 x1 y0 y1 w2.heap.size 0 w (((w2.alloc (.cells #[.int .u64 x0, .int .u64 x1] 155)).alloc (.cells #[.int .u64 y0, .int .u64 y1] 155)).alloc (.cells #[.int .u64 0, .int .u64 0, .int .u64 0, .int .u64 0] 157)) := by
    have hs := hb1'.size
    have hs2 := hb2.size
    refine ⟨?_, ?_, ?_, by simp only [World.size_alloc]; omega, ((((hb1'.trans (hb2.mono hs)).alloc (by omega) _).alloc (by simp; omega) _).alloc (by simp; omega) _), by omega⟩
    · rw [Below.heap_alloc _ _ _ (by simp only [World.size_alloc]; omega)]; exact heap_alloc2_old _ _ _
    · rw [Below.heap_alloc _ _ _ (by simp)]; exact heap_alloc2_new _ _ _
    · have h := heap_alloc_new ((w2.alloc (.cells #[.int .u64 x0, .int .u64 x1] 155)).alloc (.cells #[.int .u64 y0, .int .u64 y1] 155)) (.cells #[.int .u64 0, .int .u64 0, .int .u64 0, .int .u64 0] 157)
      simp only [World.size_alloc] at h
      exact h
  generalize ((w2.alloc (.cells #[.int .u64 x0, .int .u64 x1] 155)).alloc (.cells #[.int .u64 y0, .int .u64 y1] 155)).alloc (.cells #[.int .u64 0, .int .u64 0, .int .u64 0, .int .u64 0] 157) = W at hM ⊢
  obtain ⟨B, hB⟩ : ∃ B, w2.heap.size = B := ⟨_, rfl⟩
  rw [hB] at hM ⊢
  clear hB hb1' hb2
  go_loopw [17] (fun i wr => ∃ k : Nat, k ≤ 2 ∧ i = .int .i64 k ∧ MulM x0 x1 y0 y1 B (2 * k) w wr) (fun i _ => 2 - (intOf i).toNat)
  case atStart => exact ⟨0, by omega, rfl, hM⟩
  case round =>
    clear hM
    obtain ⟨k, hk, rfl, hM⟩ := hrel
    by_cases hk0 : k = 0
    · subst hk0
      go_wp2_with fail
      obtain ⟨wo, rfl⟩ : ∃ wo : World, wo = wr := ⟨_, rfl⟩
      go_loopw [20] (fun j wq => ∃ l : Nat, l ≤ 2 ∧ j = .int .i64 l ∧ MulM x0 x1 y0 y1 B (0 + l) w wq) (fun j _ => 2 - (intOf j).toNat)
      case atStart => exact ⟨0, by omega, rfl, hM⟩
      case round =>
        clear hM
        obtain ⟨l, hl, rfl, hM⟩ := hrel
        obtain ⟨wq, rfl⟩ : ∃ wq : World, wq = wr := ⟨_, rfl⟩
        by_cases hl0 : l = 0
        · subst hl0
          have X := cell_of_heap' (o := 0) (v := .int .u64 x0) hM.cx rfl
          have Y := cell_of_heap' (o := 0) (v := .int .u64 y0) hM.cy rfl
          have H := Lib.hid hM
          have hz := hM.hz
          clear hM
          have XA : ∀ o, (wq.alloc o).cell? ⟨B, 0, none⟩ = some (.int .u64 x0) := fun o => by rw [World.cell?_alloc_lt _ _ _ (by show B < _; omega)]; exact X
          have YA : ∀ o, (wq.alloc o).cell? ⟨B + 1, 0, none⟩ = some (.int .u64 y0) := fun o => by rw [World.cell?_alloc_lt _ _ _ (by show B + 1 < _; omega)]; exact Y
          have nX := World.new_ne wq _ X
          have nY := World.new_ne wq _ Y
          go_upto_region 9 with fail
          go_cut [11] (fun s wx => ∃ g, s = .pointer (some ⟨g, 0, none⟩) ∧ wx.heap[g]? = some (.cells #[.int .u64 ((x0 * y0) % 4294967296), .int .u64 ((x0 * y0) / 4294967296)] 155 (0, 0)) ∧ Below wq.heap.size wq wx ∧ wq.heap.size ≤ g)
          case first =>
            go_region_held3 (fun w' => w'.cell? ⟨B, 0, none⟩ = some (.int .u64 x0) ∧ w'.cell? ⟨B + 1, 0, none⟩ = some (.int .u64 y0)) (first | exact ⟨hX', hY'⟩ | go_keep)
              ((first | (go_at_call 123; refine (halves_any (x0 * y0) (by omega) (by omega) _).mono ?_; rintro e w' ⟨rfl, hbw⟩; obtain ⟨hwc, hwf⟩ := bcell' hbw; have hws : wq.heap.size ≤ w'.heap.size := (by have h := hbw.size; simp at h; omega); have hX' : w'.cell? ⟨B, 0, none⟩ = some (.int .u64 x0) := (by rw [hwc _ _ (by simp; omega)]; first | exact X | exact XA _); have hY' : w'.cell? ⟨B + 1, 0, none⟩ = some (.int .u64 y0) := (by rw [hwc _ _ (by simp; omega)]; first | exact Y | exact YA _))))
            · go_wp2_with fail
              go_meet
              exact ⟨_, rfl, heap_alloc_new _ _, (show Below wq.heap.size wq w' from ⟨hbw.os, hbw.tape, hbw.output, hws, hbw.block⟩).alloc hws _, hws⟩
            · go_wp2_with fail
              go_meet
              obtain ⟨m1, m2⟩ := two_set wq ((wq.alloc (.cells #[.int .u64 0, .int .u64 0] 155)).drew) w' 155 (.int .u64 0) (.int .u64 0) (.int .u64 ((x0 * y0) % 4294967296)) (.int .u64 ((x0 * y0) / 4294967296)) rfl rfl rfl rfl hbw
              exact ⟨_, rfl, m1, m2, Nat.le_refl _⟩
          case rest =>
            obtain ⟨g, rfl, hg, hbc, hgs⟩ := hcut
            clear X Y XA YA nX nY
            have C0 := cell_of_heap' (o := 0) (v := .int .u64 ((x0 * y0) % 4294967296)) hg rfl
            have C1 := cell_of_heap' (o := 1) (v := .int .u64 ((x0 * y0) / 4294967296)) hg rfl
            have CS : wc.heap[B + 2]? = some (.cells (mulS (x0 * y0) (x0 * y1) (x1 * y0) (x1 * y1) 0) 157 (0, 0)) := by rw [hbc.block _ (by omega)]; exact H.out.cs
            have S0 : wc.cell? ⟨B + 1 + 1, 0, none⟩ = some (.int .u64 (0)) := cell_of_heap' (o := 0) CS rfl
            have S1 : wc.cell? ⟨B + 1 + 1, 1, none⟩ = some (.int .u64 (0)) := cell_of_heap' (o := 1) CS rfl
            have F0 : wc.frozen? ⟨B + 1 + 1, 0, none⟩ = false := free_of_heap' (o := 0) CS
            have F1 : wc.frozen? ⟨B + 1 + 1, 1, none⟩ = false := free_of_heap' (o := 1) CS
            have e0 := u64_in (x0 * y0 % 4294967296) (by omega)
            have f0 := i64_in (0) (by decide)
            have f1 := i64_in (1) (by decide)
            have e1 := u64_in (x0 * y0 / 4294967296) (by omega)
            have hzc := hbc.size
            have nb : B + 1 + 1 ≠ g := by omega
            clear CS
            go_wp2_with fail
            refine wp_region_tailW 9 (by kernel_rfl) (by kernel_rfl) ?_
            simp only [List.take_succ_cons, List.take_zero, List.drop_succ_cons, List.drop_zero]
            repeat still_step
            refine wpStill_nil ?_
            go_wp2_with fail
            refine wp_region_tailW 10 (by kernel_rfl) (by kernel_rfl) ?_
            simp only [List.take_succ_cons, List.take_zero, List.drop_succ_cons, List.drop_zero]
            repeat still_step
            refine wpStill_nil ?_
            go_wp2_with fail
            have HM := (H.out.step (n := 1) (k := 0) (u := .int .u64 (x0 * y0 % 4294967296)) (v := .int .u64 (x0 * y0 / 4294967296)) hbc rfl).drew.drew
            clear C0 C1 S0 S1 F0 F1 e0 e1 f0 f1
            go_roundw
            case rel => (repeat apply Exists.intro); exact ⟨⟨1, by decide, rfl, HM⟩, rfl⟩
            case measure => simp [intOf]
        by_cases hl1 : l = 1
        · subst hl1
          have X := cell_of_heap' (o := 0) (v := .int .u64 x0) hM.cx rfl
          have Y := cell_of_heap' (o := 1) (v := .int .u64 y1) hM.cy rfl
          have H := Lib.hid hM
          have hz := hM.hz
          clear hM
          have XA : ∀ o, (wq.alloc o).cell? ⟨B, 0, none⟩ = some (.int .u64 x0) := fun o => by rw [World.cell?_alloc_lt _ _ _ (by show B < _; omega)]; exact X
          have YA : ∀ o, (wq.alloc o).cell? ⟨B + 1, 1, none⟩ = some (.int .u64 y1) := fun o => by rw [World.cell?_alloc_lt _ _ _ (by show B + 1 < _; omega)]; exact Y
          have nX := World.new_ne wq _ X
          have nY := World.new_ne wq _ Y
          go_upto_region 9 with fail
          go_cut [11] (fun s wx => ∃ g, s = .pointer (some ⟨g, 0, none⟩) ∧ wx.heap[g]? = some (.cells #[.int .u64 ((x0 * y1) % 4294967296), .int .u64 ((x0 * y1) / 4294967296)] 155 (0, 0)) ∧ Below wq.heap.size wq wx ∧ wq.heap.size ≤ g)
          case first =>
            go_region_held3 (fun w' => w'.cell? ⟨B, 0, none⟩ = some (.int .u64 x0) ∧ w'.cell? ⟨B + 1, 1, none⟩ = some (.int .u64 y1)) (first | exact ⟨hX', hY'⟩ | go_keep)
              ((first | (go_at_call 123; refine (halves_any (x0 * y1) (by omega) (by omega) _).mono ?_; rintro e w' ⟨rfl, hbw⟩; obtain ⟨hwc, hwf⟩ := bcell' hbw; have hws : wq.heap.size ≤ w'.heap.size := (by have h := hbw.size; simp at h; omega); have hX' : w'.cell? ⟨B, 0, none⟩ = some (.int .u64 x0) := (by rw [hwc _ _ (by simp; omega)]; first | exact X | exact XA _); have hY' : w'.cell? ⟨B + 1, 1, none⟩ = some (.int .u64 y1) := (by rw [hwc _ _ (by simp; omega)]; first | exact Y | exact YA _))))
            · go_wp2_with fail
              go_meet
              exact ⟨_, rfl, heap_alloc_new _ _, (show Below wq.heap.size wq w' from ⟨hbw.os, hbw.tape, hbw.output, hws, hbw.block⟩).alloc hws _, hws⟩
            · go_wp2_with fail
              go_meet
              obtain ⟨m1, m2⟩ := two_set wq ((wq.alloc (.cells #[.int .u64 0, .int .u64 0] 155)).drew) w' 155 (.int .u64 0) (.int .u64 0) (.int .u64 ((x0 * y1) % 4294967296)) (.int .u64 ((x0 * y1) / 4294967296)) rfl rfl rfl rfl hbw
              exact ⟨_, rfl, m1, m2, Nat.le_refl _⟩
          case rest =>
            obtain ⟨g, rfl, hg, hbc, hgs⟩ := hcut
            clear X Y XA YA nX nY
            have C0 := cell_of_heap' (o := 0) (v := .int .u64 ((x0 * y1) % 4294967296)) hg rfl
            have C1 := cell_of_heap' (o := 1) (v := .int .u64 ((x0 * y1) / 4294967296)) hg rfl
            have CS : wc.heap[B + 2]? = some (.cells (mulS (x0 * y0) (x0 * y1) (x1 * y0) (x1 * y1) 1) 157 (0, 0)) := by rw [hbc.block _ (by omega)]; exact H.out.cs
            have S0 : wc.cell? ⟨B + 1 + 1, 1, none⟩ = some (.int .u64 (x0 * y0 / 4294967296)) := cell_of_heap' (o := 1) CS rfl
            have S1 : wc.cell? ⟨B + 1 + 1, 2, none⟩ = some (.int .u64 (0)) := cell_of_heap' (o := 2) CS rfl
            have F0 : wc.frozen? ⟨B + 1 + 1, 1, none⟩ = false := free_of_heap' (o := 1) CS
            have F1 : wc.frozen? ⟨B + 1 + 1, 2, none⟩ = false := free_of_heap' (o := 2) CS
            have e0 := u64_in (x0 * y0 / 4294967296 + x0 * y1 % 4294967296) (by omega)
            have f0 := i64_in (1) (by decide)
            have f1 := i64_in (2) (by decide)
            have e1 := u64_in (x0 * y1 / 4294967296) (by omega)
            have hzc := hbc.size
            have nb : B + 1 + 1 ≠ g := by omega
            clear CS
            go_wp2_with fail
            refine wp_region_tailW 9 (by kernel_rfl) (by kernel_rfl) ?_
            simp only [List.take_succ_cons, List.take_zero, List.drop_succ_cons, List.drop_zero]
            repeat still_step
            refine wpStill_nil ?_
            go_wp2_with fail
            refine wp_region_tailW 10 (by kernel_rfl) (by kernel_rfl) ?_
            simp only [List.take_succ_cons, List.take_zero, List.drop_succ_cons, List.drop_zero]
            repeat still_step
            refine wpStill_nil ?_
            go_wp2_with fail
            have HM := (H.out.step (n := 2) (k := 1) (u := .int .u64 (x0 * y0 / 4294967296 + x0 * y1 % 4294967296)) (v := .int .u64 (x0 * y1 / 4294967296)) hbc rfl).drew.drew
            clear C0 C1 S0 S1 F0 F1 e0 e1 f0 f1
            go_roundw
            case rel => (repeat apply Exists.intro); exact ⟨⟨2, by decide, rfl, HM⟩, rfl⟩
            case measure => simp [intOf]
        obtain rfl : l = 2 := by omega
        go_wp2_with fail
        go_roundw
        case rel => exact ⟨1, by decide, rfl, hM⟩
        case measure => simp [intOf]
    by_cases hk1 : k = 1
    · subst hk1
      go_wp2_with fail
      obtain ⟨wo, rfl⟩ : ∃ wo : World, wo = wr := ⟨_, rfl⟩
      go_loopw [20] (fun j wq => ∃ l : Nat, l ≤ 2 ∧ j = .int .i64 l ∧ MulM x0 x1 y0 y1 B (2 + l) w wq) (fun j _ => 2 - (intOf j).toNat)
      case atStart => exact ⟨0, by omega, rfl, hM⟩
      case round =>
        clear hM
        obtain ⟨l, hl, rfl, hM⟩ := hrel
        obtain ⟨wq, rfl⟩ : ∃ wq : World, wq = wr := ⟨_, rfl⟩
        by_cases hl0 : l = 0
        · subst hl0
          have X := cell_of_heap' (o := 1) (v := .int .u64 x1) hM.cx rfl
          have Y := cell_of_heap' (o := 0) (v := .int .u64 y0) hM.cy rfl
          have H := Lib.hid hM
          have hz := hM.hz
          clear hM
          have XA : ∀ o, (wq.alloc o).cell? ⟨B, 1, none⟩ = some (.int .u64 x1) := fun o => by rw [World.cell?_alloc_lt _ _ _ (by show B < _; omega)]; exact X
          have YA : ∀ o, (wq.alloc o).cell? ⟨B + 1, 0, none⟩ = some (.int .u64 y0) := fun o => by rw [World.cell?_alloc_lt _ _ _ (by show B + 1 < _; omega)]; exact Y
          have nX := World.new_ne wq _ X
          have nY := World.new_ne wq _ Y
          go_upto_region 9 with fail
          go_cut [11] (fun s wx => ∃ g, s = .pointer (some ⟨g, 0, none⟩) ∧ wx.heap[g]? = some (.cells #[.int .u64 ((x1 * y0) % 4294967296), .int .u64 ((x1 * y0) / 4294967296)] 155 (0, 0)) ∧ Below wq.heap.size wq wx ∧ wq.heap.size ≤ g)
          case first =>
            go_region_held3 (fun w' => w'.cell? ⟨B, 1, none⟩ = some (.int .u64 x1) ∧ w'.cell? ⟨B + 1, 0, none⟩ = some (.int .u64 y0)) (first | exact ⟨hX', hY'⟩ | go_keep)
              ((first | (go_at_call 123; refine (halves_any (x1 * y0) (by omega) (by omega) _).mono ?_; rintro e w' ⟨rfl, hbw⟩; obtain ⟨hwc, hwf⟩ := bcell' hbw; have hws : wq.heap.size ≤ w'.heap.size := (by have h := hbw.size; simp at h; omega); have hX' : w'.cell? ⟨B, 1, none⟩ = some (.int .u64 x1) := (by rw [hwc _ _ (by simp; omega)]; first | exact X | exact XA _); have hY' : w'.cell? ⟨B + 1, 0, none⟩ = some (.int .u64 y0) := (by rw [hwc _ _ (by simp; omega)]; first | exact Y | exact YA _))))
            · go_wp2_with fail
              go_meet
              exact ⟨_, rfl, heap_alloc_new _ _, (show Below wq.heap.size wq w' from ⟨hbw.os, hbw.tape, hbw.output, hws, hbw.block⟩).alloc hws _, hws⟩
            · go_wp2_with fail
              go_meet
              obtain ⟨m1, m2⟩ := two_set wq ((wq.alloc (.cells #[.int .u64 0, .int .u64 0] 155)).drew) w' 155 (.int .u64 0) (.int .u64 0) (.int .u64 ((x1 * y0) % 4294967296)) (.int .u64 ((x1 * y0) / 4294967296)) rfl rfl rfl rfl hbw
              exact ⟨_, rfl, m1, m2, Nat.le_refl _⟩
          case rest =>
            obtain ⟨g, rfl, hg, hbc, hgs⟩ := hcut
            clear X Y XA YA nX nY
            have C0 := cell_of_heap' (o := 0) (v := .int .u64 ((x1 * y0) % 4294967296)) hg rfl
            have C1 := cell_of_heap' (o := 1) (v := .int .u64 ((x1 * y0) / 4294967296)) hg rfl
            have CS : wc.heap[B + 2]? = some (.cells (mulS (x0 * y0) (x0 * y1) (x1 * y0) (x1 * y1) 2) 157 (0, 0)) := by rw [hbc.block _ (by omega)]; exact H.out.cs
            have S0 : wc.cell? ⟨B + 1 + 1, 1, none⟩ = some (.int .u64 (x0 * y0 / 4294967296 + x0 * y1 % 4294967296)) := cell_of_heap' (o := 1) CS rfl
            have S1 : wc.cell? ⟨B + 1 + 1, 2, none⟩ = some (.int .u64 (x0 * y1 / 4294967296)) := cell_of_heap' (o := 2) CS rfl
            have F0 : wc.frozen? ⟨B + 1 + 1, 1, none⟩ = false := free_of_heap' (o := 1) CS
            have F1 : wc.frozen? ⟨B + 1 + 1, 2, none⟩ = false := free_of_heap' (o := 2) CS
            have e0 := u64_in (x0 * y0 / 4294967296 + x0 * y1 % 4294967296 + x1 * y0 % 4294967296) (by omega)
            have f0 := i64_in (1) (by decide)
            have f1 := i64_in (2) (by decide)
            have e1 := u64_in (x0 * y1 / 4294967296 + x1 * y0 / 4294967296) (by omega)
            have hzc := hbc.size
            have nb : B + 1 + 1 ≠ g := by omega
            clear CS
            go_wp2_with fail
            refine wp_region_tailW 9 (by kernel_rfl) (by kernel_rfl) ?_
            simp only [List.take_succ_cons, List.take_zero, List.drop_succ_cons, List.drop_zero]
            repeat still_step
            refine wpStill_nil ?_
            go_wp2_with fail
            refine wp_region_tailW 10 (by kernel_rfl) (by kernel_rfl) ?_
            simp only [List.take_succ_cons, List.take_zero, List.drop_succ_cons, List.drop_zero]
            repeat still_step
            refine wpStill_nil ?_
            go_wp2_with fail
            have HM := (H.out.step (n := 3) (k := 1) (u := .int .u64 (x0 * y0 / 4294967296 + x0 * y1 % 4294967296 + x1 * y0 % 4294967296)) (v := .int .u64 (x0 * y1 / 4294967296 + x1 * y0 / 4294967296)) hbc rfl).drew.drew
            clear C0 C1 S0 S1 F0 F1 e0 e1 f0 f1
            go_roundw
            case rel => (repeat apply Exists.intro); exact ⟨⟨1, by decide, rfl, HM⟩, rfl⟩
            case measure => simp [intOf]
        by_cases hl1 : l = 1
        · subst hl1
          have X := cell_of_heap' (o := 1) (v := .int .u64 x1) hM.cx rfl
          have Y := cell_of_heap' (o := 1) (v := .int .u64 y1) hM.cy rfl
          have H := Lib.hid hM
          have hz := hM.hz
          clear hM
          have XA : ∀ o, (wq.alloc o).cell? ⟨B, 1, none⟩ = some (.int .u64 x1) := fun o => by rw [World.cell?_alloc_lt _ _ _ (by show B < _; omega)]; exact X
          have YA : ∀ o, (wq.alloc o).cell? ⟨B + 1, 1, none⟩ = some (.int .u64 y1) := fun o => by rw [World.cell?_alloc_lt _ _ _ (by show B + 1 < _; omega)]; exact Y
          have nX := World.new_ne wq _ X
          have nY := World.new_ne wq _ Y
          go_upto_region 9 with fail
          go_cut [11] (fun s wx => ∃ g, s = .pointer (some ⟨g, 0, none⟩) ∧ wx.heap[g]? = some (.cells #[.int .u64 ((x1 * y1) % 4294967296), .int .u64 ((x1 * y1) / 4294967296)] 155 (0, 0)) ∧ Below wq.heap.size wq wx ∧ wq.heap.size ≤ g)
          case first =>
            go_region_held3 (fun w' => w'.cell? ⟨B, 1, none⟩ = some (.int .u64 x1) ∧ w'.cell? ⟨B + 1, 1, none⟩ = some (.int .u64 y1)) (first | exact ⟨hX', hY'⟩ | go_keep)
              ((first | (go_at_call 123; refine (halves_any (x1 * y1) (by omega) (by omega) _).mono ?_; rintro e w' ⟨rfl, hbw⟩; obtain ⟨hwc, hwf⟩ := bcell' hbw; have hws : wq.heap.size ≤ w'.heap.size := (by have h := hbw.size; simp at h; omega); have hX' : w'.cell? ⟨B, 1, none⟩ = some (.int .u64 x1) := (by rw [hwc _ _ (by simp; omega)]; first | exact X | exact XA _); have hY' : w'.cell? ⟨B + 1, 1, none⟩ = some (.int .u64 y1) := (by rw [hwc _ _ (by simp; omega)]; first | exact Y | exact YA _))))
            · go_wp2_with fail
              go_meet
              exact ⟨_, rfl, heap_alloc_new _ _, (show Below wq.heap.size wq w' from ⟨hbw.os, hbw.tape, hbw.output, hws, hbw.block⟩).alloc hws _, hws⟩
            · go_wp2_with fail
              go_meet
              obtain ⟨m1, m2⟩ := two_set wq ((wq.alloc (.cells #[.int .u64 0, .int .u64 0] 155)).drew) w' 155 (.int .u64 0) (.int .u64 0) (.int .u64 ((x1 * y1) % 4294967296)) (.int .u64 ((x1 * y1) / 4294967296)) rfl rfl rfl rfl hbw
              exact ⟨_, rfl, m1, m2, Nat.le_refl _⟩
          case rest =>
            obtain ⟨g, rfl, hg, hbc, hgs⟩ := hcut
            clear X Y XA YA nX nY
            have C0 := cell_of_heap' (o := 0) (v := .int .u64 ((x1 * y1) % 4294967296)) hg rfl
            have C1 := cell_of_heap' (o := 1) (v := .int .u64 ((x1 * y1) / 4294967296)) hg rfl
            have CS : wc.heap[B + 2]? = some (.cells (mulS (x0 * y0) (x0 * y1) (x1 * y0) (x1 * y1) 3) 157 (0, 0)) := by rw [hbc.block _ (by omega)]; exact H.out.cs
            have S0 : wc.cell? ⟨B + 1 + 1, 2, none⟩ = some (.int .u64 (x0 * y1 / 4294967296 + x1 * y0 / 4294967296)) := cell_of_heap' (o := 2) CS rfl
            have S1 : wc.cell? ⟨B + 1 + 1, 3, none⟩ = some (.int .u64 (0)) := cell_of_heap' (o := 3) CS rfl
            have F0 : wc.frozen? ⟨B + 1 + 1, 2, none⟩ = false := free_of_heap' (o := 2) CS
            have F1 : wc.frozen? ⟨B + 1 + 1, 3, none⟩ = false := free_of_heap' (o := 3) CS
            have e0 := u64_in (x0 * y1 / 4294967296 + x1 * y0 / 4294967296 + x1 * y1 % 4294967296) (by omega)
            have f0 := i64_in (2) (by decide)
            have f1 := i64_in (3) (by decide)
            have e1 := u64_in (x1 * y1 / 4294967296) (by omega)
            have hzc := hbc.size
            have nb : B + 1 + 1 ≠ g := by omega
            clear CS
            go_wp2_with fail
            refine wp_region_tailW 9 (by kernel_rfl) (by kernel_rfl) ?_
            simp only [List.take_succ_cons, List.take_zero, List.drop_succ_cons, List.drop_zero]
            repeat still_step
            refine wpStill_nil ?_
            go_wp2_with fail
            refine wp_region_tailW 10 (by kernel_rfl) (by kernel_rfl) ?_
            simp only [List.take_succ_cons, List.take_zero, List.drop_succ_cons, List.drop_zero]
            repeat still_step
            refine wpStill_nil ?_
            go_wp2_with fail
            have HM := (H.out.step (n := 4) (k := 2) (u := .int .u64 (x0 * y1 / 4294967296 + x1 * y0 / 4294967296 + x1 * y1 % 4294967296)) (v := .int .u64 (x1 * y1 / 4294967296)) hbc rfl).drew.drew
            clear C0 C1 S0 S1 F0 F1 e0 e1 f0 f1
            go_roundw
            case rel => (repeat apply Exists.intro); exact ⟨⟨2, by decide, rfl, HM⟩, rfl⟩
            case measure => simp [intOf]
        obtain rfl : l = 2 := by omega
        go_wp2_with fail
        go_roundw
        case rel => exact ⟨2, by decide, rfl, hM⟩
        case measure => simp [intOf]
    obtain rfl : k = 2 := by omega
    have hb := hM.hb
    have hz := hM.hz
    have hBw := hM.hB
    have CS := hM.cs
    clear wp wq' wr' ws hM
    simp only [mulS] at CS
    obtain ⟨c0, E0⟩ : ∃ c, x0 * y0 % 4294967296 = c := ⟨_, rfl⟩
    obtain ⟨c1, E1⟩ : ∃ c, x0 * y0 / 4294967296 + x0 * y1 % 4294967296 + x1 * y0 % 4294967296 = c := ⟨_, rfl⟩
    obtain ⟨c2, E2⟩ : ∃ c, x0 * y1 / 4294967296 + x1 * y0 / 4294967296 + x1 * y1 % 4294967296 = c := ⟨_, rfl⟩
    obtain ⟨c3, E3⟩ : ∃ c, x1 * y1 / 4294967296 = c := ⟨_, rfl⟩
    rw [E0, E1, E2, E3] at CS
    have b0 : 0 ≤ c0 ∧ c0 < 4294967296 := by omega
    have b1 : 0 ≤ c1 ∧ c1 < 12884901888 := by omega
    have b2 : 0 ≤ c2 ∧ c2 < 12884901888 := by omega
    have b3 : 0 ≤ c3 ∧ c3 < 4294967295 := by omega
    have HE0 := Lib.hid E0
    have HE1 := Lib.hid E1
    have HE2 := Lib.hid E2
    have HE3 := Lib.hid E3
    clear E0 E1 E2 E3
    obtain ⟨b00, b01⟩ := b0
    obtain ⟨b10, b11⟩ := b1
    obtain ⟨b20, b21⟩ := b2
    obtain ⟨b30, b31⟩ := b3
    have T0 : wr.cell? ⟨B + 1 + 1, 0, none⟩ = some (.int .u64 c0) := cell_of_heap' (o := 0) CS rfl
    have T1 : wr.cell? ⟨B + 1 + 1, 1, none⟩ = some (.int .u64 c1) := cell_of_heap' (o := 1) CS rfl
    have T2 : wr.cell? ⟨B + 1 + 1, 2, none⟩ = some (.int .u64 c2) := cell_of_heap' (o := 2) CS rfl
    have T3 : wr.cell? ⟨B + 1 + 1, 3, none⟩ = some (.int .u64 c3) := cell_of_heap' (o := 3) CS rfl
    have G0 : wr.frozen? ⟨B + 1 + 1, 0, none⟩ = false := free_of_heap' (o := 0) CS
    have G1 : wr.frozen? ⟨B + 1 + 1, 1, none⟩ = false := free_of_heap' (o := 1) CS
    have G2 : wr.frozen? ⟨B + 1 + 1, 2, none⟩ = false := free_of_heap' (o := 2) CS
    have G3 : wr.frozen? ⟨B + 1 + 1, 3, none⟩ = false := free_of_heap' (o := 3) CS
    have i1 := i64_in 1 (by decide)
    have i2 := i64_in 2 (by decide)
    have i3 := i64_in 3 (by decide)
    have m0 := u64_and32 c0 b00 (by omega)
    -- the carries
    have hd0 : c0 / 4294967296 = 0 := by omega
    obtain ⟨d1, D1, d10, d11⟩ : ∃ d, c1 / 4294967296 = d ∧ 0 ≤ d ∧ d < 3 := ⟨_, rfl, by omega, by omega⟩
    obtain ⟨r1', R1, r10, r11⟩ : ∃ d, c1 % 4294967296 = d ∧ 0 ≤ d ∧ d < 4294967296 := ⟨_, rfl, by omega, by omega⟩
    have m1 := u64_and32 c1 b10 (by omega)
    obtain ⟨e2, E2, e20, e21⟩ : ∃ d, c2 + d1 = d ∧ 0 ≤ d ∧ d < 12884901891 := ⟨_, rfl, by omega, by omega⟩
    have m2 := u64_and32 e2 e20 (by omega)
    have we2 := u64_in e2 (by omega)
    obtain ⟨d2, D2, d20, d21⟩ : ∃ d, e2 / 4294967296 = d ∧ 0 ≤ d ∧ d < 4 := ⟨_, rfl, by omega, by omega⟩
    obtain ⟨r2', R2, r20, r21⟩ : ∃ d, e2 % 4294967296 = d ∧ 0 ≤ d ∧ d < 4294967296 := ⟨_, rfl, by omega, by omega⟩
    obtain ⟨e3, E3, e30, e31⟩ : ∃ d, c3 + d2 = d ∧ 0 ≤ d ∧ d < 4294967300 := ⟨_, rfl, by omega, by omega⟩
    have we3 := u64_in e3 (by omega)
    have wc1 := u64_in c1 (by omega)
    have hc0m : c0 % 4294967296 = c0 := by omega
    obtain ⟨z3, zhi, zlo⟩ := mul_plain a b x0 x1 y0 y1 HA.out HB.out ha0 ha1 hb0 hb1 p0 q0 r0 s0 c0 c1 c2 c3 d1 e2 d2 e3 r1' r2' HE0.out HE1.out HE2.out HE3.out D1 R1 E2 D2 R2 E3
    have hBB : w.heap.size ≤ B + 1 + 1 := by omega
    have ZH := Lib.hid zhi
    have ZL := Lib.hid zlo
    have HCS := Lib.hid CS
    clear CS zhi zlo
    go_wp2_with fail
    refine wp_loop_rounds 4 ?_
    rw [rounds_succ]
    go_wp2_with fail
    refine wp_region_tailW 10 (by kernel_rfl) (by kernel_rfl) ?_
    simp only [List.take_succ_cons, List.take_zero, List.drop_succ_cons, List.drop_zero]
    repeat still_step
    refine wpStill_nil ?_
    go_wp2_with fail
    rw [rounds_succ]
    go_wp2_with fail
    refine wp_region_tailW 10 (by kernel_rfl) (by kernel_rfl) ?_
    simp only [List.take_succ_cons, List.take_zero, List.drop_succ_cons, List.drop_zero]
    repeat still_step
    refine wpStill_nil ?_
    go_wp2_with fail
    rw [rounds_succ]
    go_wp2_with fail
    refine wp_region_tailW 10 (by kernel_rfl) (by kernel_rfl) ?_
    simp only [List.take_succ_cons, List.take_zero, List.drop_succ_cons, List.drop_zero]
    repeat still_step
    refine wpStill_nil ?_
    go_wp2_with fail
    rw [rounds_succ]
    go_wp2_with fail
    have BW : Below w.heap.size w ((((((wr.setCell ⟨B + 1 + 1, 1, none⟩ (.int .u64 c1)).setCell ⟨B + 1 + 1, 0, none⟩ (.int .u64 c0)).setCell ⟨B + 1 + 1, 2, none⟩ (.int .u64 e2)).setCell ⟨B + 1 + 1, 1, none⟩ (.int .u64 r1')).setCell ⟨B + 1 + 1, 3, none⟩ (.int .u64 e3)).setCell ⟨B + 1 + 1, 2, none⟩ (.int .u64 r2')).drew.drew.drew := by
      exact ((((((((hb.setCell (p := ⟨B + 1 + 1, 1, none⟩) hBB _).setCell (p := ⟨B + 1 + 1, 0, none⟩) hBB _).setCell (p := ⟨B + 1 + 1, 2, none⟩) hBB _).setCell (p := ⟨B + 1 + 1, 1, none⟩) hBB _).setCell (p := ⟨B + 1 + 1, 3, none⟩) hBB _).setCell (p := ⟨B + 1 + 1, 2, none⟩) hBB _).drew).drew).drew
    have K0 : wr.heap[B + 1 + 1]? = some (.cells #[.int .u64 c0, .int .u64 c1, .int .u64 c2, .int .u64 c3] 157 (0, 0)) := HCS.out
    have K1 : (wr.setCell ⟨B + 1 + 1, 1, none⟩ (.int .u64 c1)).heap[B + 1 + 1]? = some (.cells #[.int .u64 c0, .int .u64 c1, .int .u64 c2, .int .u64 c3] 157 (0, 0)) := cells_step K0 rfl
    have K2 : ((wr.setCell ⟨B + 1 + 1, 1, none⟩ (.int .u64 c1)).setCell ⟨B + 1 + 1, 0, none⟩ (.int .u64 c0)).heap[B + 1 + 1]? = some (.cells #[.int .u64 c0, .int .u64 c1, .int .u64 c2, .int .u64 c3] 157 (0, 0)) := cells_step K1 rfl
    have K3 : (((wr.setCell ⟨B + 1 + 1, 1, none⟩ (.int .u64 c1)).setCell ⟨B + 1 + 1, 0, none⟩ (.int .u64 c0)).setCell ⟨B + 1 + 1, 2, none⟩ (.int .u64 e2)).heap[B + 1 + 1]? = some (.cells #[.int .u64 c0, .int .u64 c1, .int .u64 e2, .int .u64 c3] 157 (0, 0)) := cells_step K2 rfl
    have K4 : ((((wr.setCell ⟨B + 1 + 1, 1, none⟩ (.int .u64 c1)).setCell ⟨B + 1 + 1, 0, none⟩ (.int .u64 c0)).setCell ⟨B + 1 + 1, 2, none⟩ (.int .u64 e2)).setCell ⟨B + 1 + 1, 1, none⟩ (.int .u64 r1')).heap[B + 1 + 1]? = some (.cells #[.int .u64 c0, .int .u64 r1', .int .u64 e2, .int .u64 c3] 157 (0, 0)) := cells_step K3 rfl
    have K5 : (((((wr.setCell ⟨B + 1 + 1, 1, none⟩ (.int .u64 c1)).setCell ⟨B + 1 + 1, 0, none⟩ (.int .u64 c0)).setCell ⟨B + 1 + 1, 2, none⟩ (.int .u64 e2)).setCell ⟨B + 1 + 1, 1, none⟩ (.int .u64 r1')).setCell ⟨B + 1 + 1, 3, none⟩ (.int .u64 e3)).heap[B + 1 + 1]? = some (.cells #[.int .u64 c0, .int .u64 r1', .int .u64 e2, .int .u64 e3] 157 (0, 0)) := cells_step K4 rfl
    have K6 : ((((((wr.setCell ⟨B + 1 + 1, 1, none⟩ (.int .u64 c1)).setCell ⟨B + 1 + 1, 0, none⟩ (.int .u64 c0)).setCell ⟨B + 1 + 1, 2, none⟩ (.int .u64 e2)).setCell ⟨B + 1 + 1, 1, none⟩ (.int .u64 r1')).setCell ⟨B + 1 + 1, 3, none⟩ (.int .u64 e3)).setCell ⟨B + 1 + 1, 2, none⟩ (.int .u64 r2')).heap[B + 1 + 1]? = some (.cells #[.int .u64 c0, .int .u64 r1', .int .u64 r2', .int .u64 e3] 157 (0, 0)) := cells_step K5 rfl
    have CW' : ((((((wr.setCell ⟨B + 1 + 1, 1, none⟩ (.int .u64 c1)).setCell ⟨B + 1 + 1, 0, none⟩ (.int .u64 c0)).setCell ⟨B + 1 + 1, 2, none⟩ (.int .u64 e2)).setCell ⟨B + 1 + 1, 1, none⟩ (.int .u64 r1')).setCell ⟨B + 1 + 1, 3, none⟩ (.int .u64 e3)).setCell ⟨B + 1 + 1, 2, none⟩ (.int .u64 r2')).drew.drew.drew.heap[B + 1 + 1]? = some (.cells #[.int .u64 c0, .int .u64 r1', .int .u64 r2', .int .u64 e3] 157 (0, 0)) := heap_drew3 K6
    clear K0 K1 K2 K3 K4 K5 K6
    generalize ((((((wr.setCell ⟨B + 1 + 1, 1, none⟩ (.int .u64 c1)).setCell ⟨B + 1 + 1, 0, none⟩ (.int .u64 c0)).setCell ⟨B + 1 + 1, 2, none⟩ (.int .u64 e2)).setCell ⟨B + 1 + 1, 1, none⟩ (.int .u64 r1')).setCell ⟨B + 1 + 1, 3, none⟩ (.int .u64 e3)).setCell ⟨B + 1 + 1, 2, none⟩ (.int .u64 r2')).drew.drew.drew = W4 at BW CW' ⊢
    have U0 : W4.cell? ⟨B + 1 + 1, 0, none⟩ = some (.int .u64 c0) := cell_of_heap' (o := 0) CW' rfl
    have U1 : W4.cell? ⟨B + 1 + 1, 1, none⟩ = some (.int .u64 r1') := cell_of_heap' (o := 1) CW' rfl
    have U2 : W4.cell? ⟨B + 1 + 1, 2, none⟩ = some (.int .u64 r2') := cell_of_heap' (o := 2) CW' rfl
    have U3 : W4.cell? ⟨B + 1 + 1, 3, none⟩ = some (.int .u64 e3) := cell_of_heap' (o := 3) CW' rfl
    have o1 := u64_join32 (e3 * 4294967296) r2' (by omega) (Int.mul_emod_left _ _) (by omega) r20 r21
    have o2 := u64_join32 (r1' * 4294967296) c0 (by omega) (Int.mul_emod_left _ _) (by omega) b00 (by omega)
    have v1 := u64_in (e3 * 4294967296) (by omega)
    have v2 := u64_in (r1' * 4294967296) (by omega)
    clear CW' T0 T1 T2 T3 G0 G1 G2 G3 i1 i2 i3 m0 m1 m2 D1 R1 E2 D2 R2 E3 we2 we3 wc1 hc0m
    go_quiet (fail)
    go_wp2_with fail
    go_ret2
    exact ⟨ret_two ZH.out ZL.out, below_drewN BW _⟩
end Go.Proofs.Ytmgfnejiienghaa
