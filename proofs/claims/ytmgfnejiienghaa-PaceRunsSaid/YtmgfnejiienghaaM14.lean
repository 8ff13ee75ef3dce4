/- Several texts in one. -/
import Derived.Test.YtmgfnejiienghaaM13
import Derived.Laws.AppendOwnNone
/- PaceRuns: runs plainly; appending the caller's bools. -/
namespace Go.Proofs.Ytmgfnejiienghaa
open Go.RowKit Go.IntWalk
set_option linter.unusedVariables false
set_option maxRecDepth 100000
theorem clampI_id {n low high : Int} (h : low ≤ n ∧ n ≤ high) : clampI n low high = n := by
  unfold clampI
  rw [if_neg (by omega), if_neg (by omega)]
theorem pNext_in (x c : Int) (q : Bool) : (6 ≤ (pNext x c q).1 ∧ (pNext x c q).1 ≤ 10) ∧ (-30 ≤ (pNext x c q).2 ∧ (pNext x c q).2 ≤ 30) := by
  have kp := clampI_in x (low := 6) (high := 10) (by decide)
  have kc := clampI_in c (low := -30) (high := 30) (by decide)
  unfold pNext
  generalize clampI x 6 10 = p at kp
  generalize clampI c (-30) 30 = d at kc
  have k1 := clampI_in (p + 1) (low := 6) (high := 10) (by decide)
  have k2 := clampI_in (p - 1) (low := 6) (high := 10) (by decide)
  unfold pStep
  cases q
  · simp only [Bool.false_eq_true, if_false]
    split
    · exact ⟨k2, by omega⟩
    · exact ⟨kp, by show _ ≤ d - 2 * p ∧ d - 2 * p ≤ 30; omega⟩
  · simp only [if_true]
    split
    · exact ⟨k1, by omega⟩
    · exact ⟨kp, by show _ ≤ d + p ∧ d + p ≤ 30; omega⟩
theorem pRunH_in (l : List Bool) : ∀ p d, (6 ≤ p ∧ p ≤ 10) → (-30 ≤ d ∧ d ≤ 30) → (6 ≤ (pRunH p d l).1 ∧ (pRunH p d l).1 ≤ 10) ∧ (-30 ≤ (pRunH p d l).2 ∧ (pRunH p d l).2 ≤ 30) := by
  induction l with
  | nil => intro p d h1 h2; exact ⟨h1, h2⟩
  | cons q t ih => intro p d h1 h2; exact ih _ _ (pNext_in p d q).1 (pNext_in p d q).2
theorem pRun_in (x c : Int) (l : List Bool) : (6 ≤ (pRun x c l).1 ∧ (pRun x c l).1 ≤ 10) ∧ (-30 ≤ (pRun x c l).2 ∧ (pRun x c l).2 ≤ 30) :=
  pRunH_in l _ _ (clampI_in x (by decide)) (clampI_in c (by decide))
theorem pNext_held (x c : Int) (q : Bool) : pNext (clampI x 6 10) (clampI c (-30) 30) q = pNext x c q := by
  unfold pNext
  rw [clampI_id (clampI_in x (by decide)), clampI_id (clampI_in c (by decide))]
/-- steps, begun with what is not held yet -/
theorem pRun_steps {x c : Int} {l : List Bool} (h : l ≠ []) : pRunH x c l = pRun x c l := by
  cases l with
  | nil => exact absurd rfl h
  | cons q t =>
    show pRunH (pNext x c q).1 (pNext x c q).2 t = pRunH (pNext (clampI x 6 10) (clampI c (-30) 30) q).1 (pNext (clampI x 6 10) (clampI c (-30) 30) q).2 t
    rw [pNext_held]
/-- two runs are one -/
theorem pRun_two (x c : Int) (l t : List Bool) : pRun (pRun x c l).1 (pRun x c l).2 t = pRun x c (l ++ t) := by
  have h := pRun_in x c l
  unfold pRun at h ⊢
  rw [pRunH_append, clampI_id h.1, clampI_id h.2]
theorem quiet_no : pQuiet 1 0 = false := by decide +kernel
theorem quiet_so : pQuiet 1 4294967296 = true := by decide +kernel
/-- a slice of bools of the caller's -/
def BIn (n : Nat) (W : World) (v : Value) (bs : List Bool) : Prop :=
  (bs = [] ∧ v = .slice none 0 0) ∨ (bs = [] ∧ ∃ a c, v = .slice (some a) 0 c) ∨ ∃ g o c, v = .slice (some ⟨g, o, none⟩) bs.length c ∧ bs.length ≤ c ∧ g < n ∧ ∀ i b, bs[i]? = some b → W.cell? ⟨g, o + i, none⟩ = some (.bool b)
theorem BIn.low {n : Nat} {W : World} {v : Value} {bs : List Bool} (h : BIn n W v bs) : BLow n W v bs := by
  rcases h with ⟨h, rfl⟩ | ⟨h, a, c, rfl⟩ | h
  · exact .inl ⟨h, _, _, rfl⟩
  · exact .inl ⟨h, _, _, rfl⟩
  · exact .inr h
theorem BIn.to {n : Nat} {W W' : World} {v : Value} {bs : List Bool} (h : BIn n W v bs) (hb : Below n W W') : BIn n W' v bs := by
  rcases h with h | h | ⟨g, o, c, rfl, h1, h2, h3⟩
  · exact .inl h
  · exact .inr (.inl h)
  · exact .inr (.inr ⟨g, o, c, rfl, h1, h2, fun i b hi => by rw [hb.cell (p := ⟨g, o + i, none⟩) h2]; exact h3 i b hi⟩)
theorem BIn.len {n : Nat} {W : World} {v : Value} {bs : List Bool} (h : BIn n W v bs) : ∃ a c, v = .slice a bs.length c := by
  rcases h with ⟨rfl, rfl⟩ | ⟨rfl, a, c, rfl⟩ | ⟨g, o, c, rfl, _⟩
  · exact ⟨_, _, rfl⟩
  · exact ⟨_, _, rfl⟩
  · exact ⟨_, _, rfl⟩
/-- the caller's bools are appended -/
theorem wpList_append_bools {w : World} {ops : Array Oper} {rest : List Oper} {o : Oper} {a : Act} {Q : Exit → Act → World → Prop} (hgd : o.guard = none) (s x : Operand)
    (ho : o.op = .call { callee := .builtin .append, args := #[s, x], argTypes := #[66, 66] })
    (base : Nat) (v : Value) (n : Nat) (xs : List Value) (hs : a.eval s = v) (hown : w.ownsRow base 4 1 v n xs)
    (u : Value) (bs : List Bool) {k : Nat} (hx : a.eval x = u) (hu : BIn k w u bs) (hb : bs.length ≤ 1024) (hn : n ≤ 1024) (hbase : base ≤ w.heap.size)
    (h : ∀ v' w', w'.ownsRow base 4 1 v' (n + bs.length) (xs ++ bs.map Value.bool) → w.grownBy w' v.ownBlock → wpList Try.prog ops Q rest (a.put o.dst v') w') : wpList Try.prog ops Q (o :: rest) a w := by
  obtain ⟨i0, hi, hz0, hz1, hz2⟩ := info_parts info_bool
  rcases hu with ⟨rfl, rfl⟩ | ⟨rfl, ad, c, rfl⟩ | ⟨g, of, c, rfl, h1, h2, h3⟩
  · refine wpList_append_own_none hgd s x 66 ho base 4 i0 1 Try.underlying66 hi v n xs hs hown hx (h v w ?_ ⟨rfl, rfl, rfl, Nat.le_refl _, fun _ _ _ => rfl⟩)
    simpa using hown
  · refine wpList_append_own w hgd s x 66 ho base 4 i0 (.bool false) 1 1 Try.underlying66 hi hz0 hz1 hz2 rfl (by decide) v n xs hs hown ad 0 c [] hx rfl (fun j u hj => by simp at hj) (fun u hu => by cases hu) (by unfold maxLen; omega) (by omega) hbase fun v' w' q1 q2 _ => h v' w' (by simpa using q1) q2
  · refine wpList_append_own w hgd s x 66 ho base 4 i0 (.bool false) 1 1 Try.underlying66 hi hz0 hz1 hz2 rfl (by decide) v n xs hs hown ⟨g, of, none⟩ bs.length c (bs.map Value.bool) hx (by simp) (fun j u hj => ?_) (fun u hu => ?_) (by unfold maxLen; omega) (by omega) hbase fun v' w' q1 q2 _ => h v' w' q1 q2
    · rw [List.getElem?_map] at hj
      obtain ⟨b, hb, rfl⟩ := Option.map_eq_some_iff.1 hj
      rw [show (⟨g, of, none⟩ : Addr).add j = ⟨g, of + j, none⟩ by unfold Addr.add; split <;> simp_all]
      exact h3 j b hb
    · obtain ⟨b, _, rfl⟩ := List.mem_map.1 hu
      simp [Value.oneCell']
end Go.Proofs.Ytmgfnejiienghaa
/- The walk over the law PaceRuns. -/
namespace Go.Proofs.Ytmgfnejiienghaa
open Go.RowKit Go.IntWalk
set_option linter.unusedVariables false
set_option maxRecDepth 100000
/-- what memory holds in PaceRuns -/
structure RM (B0 B1 B2 : Nat) (x c p d : Int) (w0 W : World) : Prop where
  x : W.heap[B0]? = some (.cells #[.int .i64 x, .int .i64 c] 65 (0, 0))
  s : W.heap[B1]? = some (.cells stdP 26 (0, 0))
  y : W.heap[B2]? = some (.cells #[.int .i64 p, .int .i64 d] 65 (0, 0))
  l0 : w0.heap.size ≤ B0
  l1 : B0 < B1
  l2 : B1 < B2
  l3 : B2 < W.heap.size
  bw : Below w0.heap.size w0 W
theorem RM.below {B0 B1 B2 : Nat} {x c p d : Int} {w0 W W' : World} (h : RM B0 B1 B2 x c p d w0 W) (hb : Below W.heap.size W W') : RM B0 B1 B2 x c p d w0 W' := by
  obtain ⟨h1, h2, h3, l0, l1, l2, l3, bw⟩ := h
  have := hb.size
  exact ⟨by rw [hb.block _ (by omega)]; exact h1, by rw [hb.block _ (by omega)]; exact h2, by rw [hb.block _ (by omega)]; exact h3, l0, l1, l2, by omega, bnext bw hb⟩
theorem RM.row {B0 B1 B2 : Nat} {x c p d p' d' : Int} {w0 W : World} (h : RM B0 B1 B2 x c p d w0 W) : RM B0 B1 B2 x c p' d' w0 (W.setRow B2 #[.int .i64 p', .int .i64 d']) := by
  obtain ⟨h1, h2, h3, l0, l1, l2, l3, bw⟩ := h
  exact ⟨by rw [setRow_other _ _ _ _ (by omega)]; exact h1, by rw [setRow_other _ _ _ _ (by omega)]; exact h2, setRow_heap _ _ _ _ _ _ h3, l0, l1, l2, by simpa using l3, below_setRow bw (by omega) _⟩
theorem std_cells20r {W : World} {b : Nat} (h : W.heap[b]? = some (.cells stdP 26 (0, 0))) : True
    ∧ (∀ d os, (Sort.grow (redrawn W d) os).cell? ⟨b, 0, none⟩ = some (.int .i64 536870912))
    ∧ (∀ d os, (Sort.grow (redrawn W d) os).cell? ⟨b, 1, none⟩ = some (.int .i64 1288490188800))
    ∧ (∀ d os, (Sort.grow (redrawn W d) os).cell? ⟨b, 2, none⟩ = some (.int .i64 4294967296000))
    ∧ (∀ d os, (Sort.grow (redrawn W d) os).cell? ⟨b, 3, none⟩ = some (.int .i64 2147483))
    ∧ (∀ d os, (Sort.grow (redrawn W d) os).cell? ⟨b, 4, none⟩ = some (.int .i64 64424))
    ∧ (∀ d os, (Sort.grow (redrawn W d) os).cell? ⟨b, 5, none⟩ = some (.int .i64 6442450944))
    ∧ (∀ d os, (Sort.grow (redrawn W d) os).cell? ⟨b, 6, none⟩ = some (.int .i64 17179869184))
    ∧ (∀ d os, (Sort.grow (redrawn W d) os).cell? ⟨b, 7, none⟩ = some (.int .i64 6))
    ∧ (∀ d os, (Sort.grow (redrawn W d) os).cell? ⟨b, 8, none⟩ = some (.int .i64 10))
    ∧ (∀ d os, (Sort.grow (redrawn W d) os).cell? ⟨b, 9, none⟩ = some (.int .i64 0))
    ∧ (∀ d os, (Sort.grow (redrawn W d) os).cell? ⟨b, 10, none⟩ = some (.int .i64 1))
    ∧ (∀ d os, (Sort.grow (redrawn W d) os).cell? ⟨b, 11, none⟩ = some (.int .i64 3)) :=
  ⟨trivial, fun d os => cell_regrown (cell_of_heap' (o := 0) h rfl) d os, fun d os => cell_regrown (cell_of_heap' (o := 1) h rfl) d os, fun d os => cell_regrown (cell_of_heap' (o := 2) h rfl) d os, fun d os => cell_regrown (cell_of_heap' (o := 3) h rfl) d os, fun d os => cell_regrown (cell_of_heap' (o := 4) h rfl) d os, fun d os => cell_regrown (cell_of_heap' (o := 5) h rfl) d os, fun d os => cell_regrown (cell_of_heap' (o := 6) h rfl) d os, fun d os => cell_regrown (cell_of_heap' (o := 7) h rfl) d os, fun d os => cell_regrown (cell_of_heap' (o := 8) h rfl) d os, fun d os => cell_regrown (cell_of_heap' (o := 9) h rfl) d os, fun d os => cell_regrown (cell_of_heap' (o := 10) h rfl) d os, fun d os => cell_regrown (cell_of_heap' (o := 11) h rfl) d os⟩
theorem runs_start {w w1 w2 : World} {x c : Int} (hb1 : Below (w.alloc (.cells #[.int .i64 x, .int .i64 c] 65)).heap.size (w.alloc (.cells #[.int .i64 x, .int .i64 c] 65)) w1) (hb2 : Below w1.heap.size w1 w2) :
    ((w2.alloc (.cells stdP 26)).alloc (.cells #[] 4)).ownsRow (w2.heap.size + 1) 4 1 (.slice (some ⟨w2.heap.size + 1, 0, none⟩) 0 0) 0 []
    ∧ Below w.heap.size w ((w2.alloc (.cells stdP 26)).alloc (.cells #[] 4))
    ∧ w2.heap.size + 1 ≤ ((w2.alloc (.cells stdP 26)).alloc (.cells #[] 4)).heap.size
    ∧ ((w2.alloc (.cells stdP 26)).alloc (.cells #[] 4)).heap[w.heap.size]? = some (.cells #[.int .i64 x, .int .i64 c] 65 (0, 0))
    ∧ ((w2.alloc (.cells stdP 26)).alloc (.cells #[] 4)).heap[w2.heap.size]? = some (.cells stdP 26 (0, 0))
    ∧ w.heap.size < w2.heap.size := by
  have z1 : (w.alloc (.cells #[.int .i64 x, .int .i64 c] 65)).heap.size = w.heap.size + 1 := by simp
  have z2 := hb1.size
  have z3 := hb2.size
  have k2 := (Below.refl _ (w2.alloc (.cells stdP 26))).alloc (Nat.le_refl _) (.cells #[] 4)
  have k1 := (Below.refl _ w2).alloc (Nat.le_refl _) (.cells stdP 26)
  have z4 : (w2.alloc (.cells stdP 26)).heap.size = w2.heap.size + 1 := by simp
  refine ⟨?_, ?_, by simp, ?_, ?_, by omega⟩
  · have h := World.ownsRow_made (base := w2.heap.size + 1) (e := 4) (size := 1) (w2.alloc (.cells stdP 26)) #[] 0 (by omega) (by decide) rfl
    rwa [z4] at h
  · exact balloc (balloc (bnext (bnext (balloc (Below.refl _ _) _) hb1) hb2) _) _
  · rw [k2.block _ (by omega), k1.block _ (by omega), hb2.block _ (by omega), hb1.block _ (by omega)]
    exact heap_alloc_new _ _
  · rw [k2.block _ (by omega)]
    exact heap_alloc_new _ _
theorem runs_mid {w w2 w5 : World} {x c : Int} (hX : w5.heap[w.heap.size]? = some (.cells #[.int .i64 x, .int .i64 c] 65 (0, 0))) (hS : w5.heap[w2.heap.size]? = some (.cells stdP 26 (0, 0))) (q5 : w.heap.size < w2.heap.size) (s5 : w2.heap.size < w5.heap.size) (bw : Below w.heap.size w w5) :
    RM w.heap.size w2.heap.size w5.heap.size x c x c w (w5.alloc (.cells #[.int .i64 x, .int .i64 c] 65)) := by
  have hb6 := (Below.refl _ w5).alloc (Nat.le_refl _) (.cells #[.int .i64 x, .int .i64 c] 65)
  exact ⟨by rw [hb6.block _ (by omega)]; exact hX, by rw [hb6.block _ (by omega)]; exact hS, heap_alloc_new _ _, Nat.le_refl _, q5, s5, by simp, balloc bw _⟩
theorem BLow.mono {n m : Nat} {W : World} {v : Value} {bs : List Bool} (h : BLow n W v bs) (hm : n ≤ m) : BLow m W v bs := by
  rcases h with h | ⟨g, o, c, rfl, h1, h2, h3⟩
  · exact .inl h
  · exact .inr ⟨g, o, c, rfl, h1, by omega, h3⟩
theorem next_no (p d : Int) (w : World) : Calls Try.prog 35 #[.agg stdP, .agg #[.int .i64 p, .int .i64 d], .int .i64 1, .int .i64 0] w fun e w' => e = .returned (.agg #[.int .i64 (pNext p d false).1, .int .i64 (pNext p d false).2]) ∧ Below w.heap.size w w' := by
  have h := nextp_any p d 1 0 (by decide) (by decide) (by decide) (by decide) w
  rwa [quiet_no] at h
theorem next_so (p d : Int) (w : World) : Calls Try.prog 35 #[.agg stdP, .agg #[.int .i64 p, .int .i64 d], .int .i64 1, .int .i64 4294967296] w fun e w' => e = .returned (.agg #[.int .i64 (pNext p d true).1, .int .i64 (pNext p d true).2]) ∧ Below w.heap.size w w' := by
  have h := nextp_any p d 1 4294967296 (by decide) (by decide) (by decide) (by decide) w
  rwa [quiet_so] at h
theorem drop_at {al : List Bool} {k : Nat} (h : k < al.length) : ∃ q, al[k]? = some q ∧ al.drop k = q :: al.drop (k + 1) :=
  ⟨al[k], List.getElem?_eq_getElem h, List.drop_eq_getElem_cons h⟩
theorem BIn.at {n : Nat} {W : World} {aa : Option Addr} {ca : Nat} {al : List Bool} {k : Nat} {q : Bool} (h : BIn n W (.slice aa al.length ca) al) (hq : al[k]? = some q) : ∃ g o, aa = some ⟨g, o, none⟩ ∧ W.cell? ⟨g, o + k, none⟩ = some (.bool q) := by
  rcases h with ⟨h, _⟩ | ⟨h, _⟩ | ⟨g, o, c, e, _, _, h3⟩
  · rw [h] at hq; simp at hq
  · rw [h] at hq; simp at hq
  · simp only [Value.slice.injEq] at e
    exact ⟨g, o, e.1, h3 k q hq⟩
set_option maxHeartbeats 2000000 in
theorem runs_walk (x c : Int) (va vb : Value) (al bl : List Bool) (w : World) (ha : BIn w.heap.size w va al) (hb : BIn w.heap.size w vb bl) (la : al.length ≤ 1024) (lb : bl.length ≤ 1024) :
    Calls Try.prog 13 #[.agg #[.int .i64 x, .int .i64 c], va, vb] w fun e w' => e = .returned (.bool true) ∧ Below w.heap.size w w' := by
  obtain ⟨aa, ca, rfl⟩ := ha.len
  obtain ⟨ab, cb, rfl⟩ := hb.len
  go_enter Try.func13, Try.ntmps13
  go_wp2_with (first | (with_reducible refine (shown20 _).mono ?_; rintro e w1 ⟨rfl, hb1⟩) | (with_reducible refine (standard20 _).mono ?_; rintro e w2 ⟨rfl, hb2⟩) | (at_builtin; refine wpList_append_bools (k := w.heap.size) rfl _ _ rfl (w2.heap.size + 1) _ 0 [] rfl ?own1 _ al rfl ?hu1 la (by decide) ?hle1 ?k1))
  case own1 => exact (runs_start hb1 hb2).1
  case hu1 => exact ha.to (runs_start hb1 hb2).2.1
  case hle1 => exact (runs_start hb1 hb2).2.2.1
  case k1 =>
    intro v1 w4 hown1 hgrow1
    obtain ⟨q0, q1, q2, q3, q4, q5⟩ := runs_start hb1 hb2
    generalize (w2.alloc (.cells stdP 26)).alloc (.cells #[] 4) = W3 at q0 q1 q2 q3 q4 hgrow1
    have B4 : Below (w2.heap.size + 1) W3 w4 := below_grown (Below.refl _ _) hgrow1 (fun k hk => (q0.lt k hk).1) q2
    have s4 : w2.heap.size + 1 ≤ w4.heap.size := Nat.le_trans q2 B4.size
    clear hgrow1 q0 hb1 hb2
    go_wp2_with (at_builtin; refine wpList_append_bools (k := w.heap.size) rfl _ _ rfl (w2.heap.size + 1) _ al.length (al.map Value.bool) rfl ?own2 _ bl rfl ?hu2 lb la ?hle2 ?k2)
    case own2 => exact hown1
    case hu2 => exact hb.to (q1.trans (B4.mono (by omega)))
    case hle2 => exact s4
    case k2 =>
      intro v2 w5 hown2 hgrow2
      have B5 : Below (w2.heap.size + 1) W3 w5 := below_grown B4 hgrow2 (fun k hk => (hown1.lt k hk).1) s4
      have bw : Below w.heap.size w w5 := q1.trans (B5.mono (by omega))
      have hX : w5.heap[w.heap.size]? = some (.cells #[.int .i64 x, .int .i64 c] 65 (0, 0)) := by rw [B5.block _ (by omega)]; exact q3
      have hS : w5.heap[w2.heap.size]? = some (.cells stdP 26 (0, 0)) := by rw [B5.block _ (by omega)]; exact q4
      have hA := ha.to bw
      have hB := hb.to bw
      rw [← List.map_append] at hown2
      have hL := owned_blow hown2
      have s5 : w2.heap.size < w5.heap.size := Nat.lt_of_lt_of_le (Nat.lt_of_succ_le q2) B5.size
      clear hown1 hown2 hgrow2 B4 B5 q1 q2 q3 q4 ha hb s4
      go_wp2_with (refine wpList_load_row rfl 65 (.tmp 3) rfl _ rfl _ _ _ _ hX Try.underlying65 rfl (by kernel_rfl) ?_)
      have hp := runs_mid hX hS q5 s5 bw
      have hb6 := (Below.refl _ w5).alloc (Nat.le_refl _) (.cells #[.int .i64 x, .int .i64 c] 65)
      replace hA := hA.to (hb6.mono bw.size)
      replace hB := hB.to (hb6.mono bw.size)
      replace hL := hL.to hb6
      generalize w5.alloc (.cells #[.int .i64 x, .int .i64 c] 65) = W at hp hA hB hL ⊢
      have HN0 := Lib.hid next_no
      have HN1 := Lib.hid next_so
      clear hX hS hb6
      go_loopw [10, 11] (fun i j wr => ∃ (k : Nat) (p d : Int), k ≤ al.length ∧ i = .int .i64 k ∧ RM w.heap.size w2.heap.size w5.heap.size x c p d w wr ∧ Below w5.heap.size W wr ∧ Hid (pRunH x c al = pRunH p d (al.drop k))) (fun i _ _ => al.length - (intOf i).toNat)
      case atStart => exact ⟨0, x, c, by omega, rfl, hp, Below.refl _ _, Lib.hid rfl⟩
      case round =>
        obtain ⟨k, p, d, hk, rfl, hr, hbw, HR⟩ := hrel
        by_cases hlt : k < al.length
        · obtain ⟨q, hq, hdr⟩ := drop_at hlt
          obtain ⟨g, o, rfl, hc⟩ := (hA.to (hbw.mono bw.size)).at hq
          have HR' : Hid (pRunH x c al = pRunH (pNext p d q).1 (pNext p d q).2 (al.drop (k + 1))) := Lib.hid (by rw [HR.out, hdr]; rfl)
          generalize hy : (pNext p d q).1 = y at HR'
          generalize hz : (pNext p d q).2 = z at HR'
          clear hdr hq HR hp hA hB hL
          cases q
          · have HN : Hid (∀ w, Calls Try.prog 35 #[.agg stdP, .agg #[.int .i64 p, .int .i64 d], .int .i64 1, .int .i64 0] w fun e w' => e = .returned (.agg #[.int .i64 y, .int .i64 z]) ∧ Below w.heap.size w w') := Lib.hid (by rw [← hy, ← hz]; exact HN0.out p d)
            clear hy hz HN0 HN1
            go_wp2_with (first
              | (refine wpList_load_row rfl 65 (.tmp 9) rfl _ rfl _ _ _ _ hr.y Try.underlying65 rfl (by kernel_rfl) ?_)
              | (refine wpList_load_row rfl 26 (.tmp 7) rfl _ rfl _ _ _ _ hr.s Try.underlying26 rfl (by kernel_rfl) ?_)
              | (with_reducible refine (HN.out _).mono ?_; rintro e w6 ⟨rfl, hb6⟩; replace hbw := hbw.trans (hb6.mono (Nat.le_of_lt hr.l3)); replace hr := hr.below hb6; clear hb6; obtain ⟨wq, rfl⟩ : ∃ wq : World, wq = w6 := ⟨_, rfl⟩)
              | (refine wpList_store_row rfl 65 (.tmp 9) (.tmp 48) rfl _ #[.int .i64 y, .int .i64 z] rfl rfl _ _ hr.y (by kernel_rfl) rfl (pace_one _ _) ?_; replace hbw := below_setRow hbw (Nat.le_refl _) #[.int .i64 y, .int .i64 z]; replace hr := hr.row (p' := y) (d' := z); generalize wq.setRow w5.heap.size #[.int .i64 y, .int .i64 z] = W7 at hr hbw ⊢))
            go_roundw
            case rel => exact ⟨k + 1, y, z, by omega, by go_num, hr, hbw, HR'⟩
            case measure => simp [intOf]; omega
          · have HN : Hid (∀ w, Calls Try.prog 35 #[.agg stdP, .agg #[.int .i64 p, .int .i64 d], .int .i64 1, .int .i64 4294967296] w fun e w' => e = .returned (.agg #[.int .i64 y, .int .i64 z]) ∧ Below w.heap.size w w') := Lib.hid (by rw [← hy, ← hz]; exact HN1.out p d)
            clear hy hz HN0 HN1
            go_wp2_with (first
              | (refine wpList_load_row rfl 65 (.tmp 9) rfl _ rfl _ _ _ _ hr.y Try.underlying65 rfl (by kernel_rfl) ?_)
              | (refine wpList_load_row rfl 26 (.tmp 7) rfl _ rfl _ _ _ _ hr.s Try.underlying26 rfl (by kernel_rfl) ?_)
              | (with_reducible refine (HN.out _).mono ?_; rintro e w6 ⟨rfl, hb6⟩; replace hbw := hbw.trans (hb6.mono (Nat.le_of_lt hr.l3)); replace hr := hr.below hb6; clear hb6; obtain ⟨wq, rfl⟩ : ∃ wq : World, wq = w6 := ⟨_, rfl⟩)
              | (refine wpList_store_row rfl 65 (.tmp 9) (.tmp 48) rfl _ #[.int .i64 y, .int .i64 z] rfl rfl _ _ hr.y (by kernel_rfl) rfl (pace_one _ _) ?_; replace hbw := below_setRow hbw (Nat.le_refl _) #[.int .i64 y, .int .i64 z]; replace hr := hr.row (p' := y) (d' := z); generalize wq.setRow w5.heap.size #[.int .i64 y, .int .i64 z] = W7 at hr hbw ⊢))
            go_roundw
            case rel => exact ⟨k + 1, y, z, by omega, by go_num, hr, hbw, HR'⟩
            case measure => simp [intOf]; omega
        · have hk' : k = al.length := by omega
          subst hk'
          have HE : pRunH x c al = (p, d) := by rw [HR.out, List.drop_length]; rfl
          have hA1 : BLow wr.heap.size wr _ al := (hA.to (hbw.mono bw.size)).low.mono (by have := hr.bw.size; omega)
          have hB1 := hB.to (hbw.mono bw.size)
          have hL1 := hL.to hbw
          have HZ := pRun_two x c al bl
          have HY : al ≠ [] → (p, d) = pRun x c al := fun h => by rw [← HE, pRun_steps h]
          have HA := run_any x c al _ wr hA1
          generalize pRun x c al = zz at HZ HY HA
          obtain ⟨z1, z2⟩ := zz
          replace HA := Lib.hid HA
          clear hA hB hL hA1 HR HE HN0 HN1 hp
          go_wp2_with (first
            | (refine wpList_load_row rfl 65 (.tmp 3) rfl _ rfl _ _ _ _ hr.x Try.underlying65 rfl (by kernel_rfl) ?_)
            | (refine wpList_load_row rfl 26 (.tmp 7) rfl _ rfl _ _ _ _ hr.s Try.underlying26 rfl (by kernel_rfl) ?_)
            | (with_reducible refine HA.out.mono ?_; rintro e w6 ⟨rfl, hb6⟩))
          have hb8 := hb6.trans ((Below.refl _ w6).alloc (Nat.le_refl _) (.cells #[.int .i64 z1, .int .i64 z2] 65) |>.mono hb6.size)
          have hz8 : (w6.alloc (.cells #[.int .i64 z1, .int .i64 z2] 65)).heap[w6.heap.size]? = some (.cells #[.int .i64 z1, .int .i64 z2] 65 (0, 0)) := heap_alloc_new _ _
          generalize w6.alloc (.cells #[.int .i64 z1, .int .i64 z2] 65) = W8 at hb8 hz8 ⊢
          have hr8 := hr.below hb8
          have hB8 : BLow W8.heap.size W8 _ bl := (hB1.to (hb8.mono hr.bw.size)).low.mono (by have := hr8.bw.size; omega)
          have hL8 : BLow W8.heap.size W8 _ (al ++ bl) := (hL1.to (hb8.mono (by have := hr.l3; omega))).mono (by have := hr8.l3; omega)
          clear hb6 hb8 hr hB1 hL1
          have HU : Hid (∀ d os, Calls Try.prog 34 #[.agg stdP, .agg #[.int .i64 z1, .int .i64 z2], .slice ab bl.length cb] (Sort.grow (redrawn W8 d) os) fun e w' => e = .returned (.agg #[.int .i64 (pRun x c (al ++ bl)).1, .int .i64 (pRun x c (al ++ bl)).2]) ∧ Below (Sort.grow (redrawn W8 d) os).heap.size (Sort.grow (redrawn W8 d) os) w') := Lib.hid fun d os => by
            have h := run_any z1 z2 _ _ _ (hB8.grown d os)
            rwa [HZ] at h
          have HV : Hid (∀ d os, Calls Try.prog 34 #[.agg stdP, .agg #[.int .i64 x, .int .i64 c], v2] (Sort.grow (redrawn W8 d) os) fun e w' => e = .returned (.agg #[.int .i64 (pRun x c (al ++ bl)).1, .int .i64 (pRun x c (al ++ bl)).2]) ∧ Below (Sort.grow (redrawn W8 d) os).heap.size (Sort.grow (redrawn W8 d) os) w') := Lib.hid fun d os => run_any x c _ _ _ (hL8.grown d os)
          generalize (pRun x c (al ++ bl)).1 = r1 at HU HV
          generalize (pRun x c (al ++ bl)).2 = r2 at HU HV
          obtain ⟨_, s0, s1, s2, s3, s4, s5', s6, s7, s8, s9, s10, s11⟩ := std_cells20r hr8.s
          have x0 : ∀ d os, (Sort.grow (redrawn W8 d) os).cell? ⟨w.heap.size, 0, none⟩ = some (.int .i64 x) := fun d os => cell_regrown (cell_of_heap' (o := 0) hr8.x rfl) d os
          have x1 : ∀ d os, (Sort.grow (redrawn W8 d) os).cell? ⟨w.heap.size, 1, none⟩ = some (.int .i64 c) := fun d os => cell_regrown (cell_of_heap' (o := 1) hr8.x rfl) d os
          have y0 : ∀ d os, (Sort.grow (redrawn W8 d) os).cell? ⟨w5.heap.size, 0, none⟩ = some (.int .i64 p) := fun d os => cell_regrown (cell_of_heap' (o := 0) hr8.y rfl) d os
          have y1 : ∀ d' os, (Sort.grow (redrawn W8 d') os).cell? ⟨w5.heap.size, 1, none⟩ = some (.int .i64 d) := fun d' os => cell_regrown (cell_of_heap' (o := 1) hr8.y rfl) d' os
          have t0 : ∀ d os, (Sort.grow (redrawn W8 d) os).cell? ⟨w6.heap.size, 0, none⟩ = some (.int .i64 z1) := fun d os => cell_regrown (cell_of_heap' (o := 0) hz8 rfl) d os
          have t1 : ∀ d os, (Sort.grow (redrawn W8 d) os).cell? ⟨w6.heap.size, 1, none⟩ = some (.int .i64 z2) := fun d os => cell_regrown (cell_of_heap' (o := 1) hz8 rfl) d os
          have bw8 := hr8.bw
          clear hr8 hz8 hB8 hL8
          by_cases h0 : al = []
          · subst h0
            refine wp_region_quiet_below (by kernel_rfl) (by kernel_rfl) ?_
            repeat (quiet_step (first | (with_reducible refine Calls.regrown_of (HU.out _ _)) | (with_reducible refine Calls.regrown_of (HV.out _ _))))
            refine wpQuiet_nil ?_
            rintro _ ⟨q, rfl⟩
            have hb2 := bnext bw8 (below_regrown W8 q.d q.os)
            generalize Sort.grow (redrawn W8 q.d) q.os = W2 at hb2 ⊢
            clear s0 s1 s2 s3 s4 s5' s6 s7 s8 s9 s10 s11 x0 x1 y0 y1 t0 t1 HU HV
            go_wp2_with fail
            go_ret
            exact ⟨ret_bool (by simp), hb2⟩
          · obtain ⟨rfl, rfl⟩ : p = z1 ∧ d = z2 := by have h := HY h0; simpa using h
            have hne : ¬ ((al.length : Int) = 0) := by have := List.length_pos_iff.2 h0; omega
            refine wp_region_quiet_below (by kernel_rfl) (by kernel_rfl) ?_
            repeat (quiet_step (first | (with_reducible refine Calls.regrown_of (HU.out _ _)) | (with_reducible refine Calls.regrown_of (HV.out _ _))))
            refine wpQuiet_nil ?_
            rintro _ ⟨q, rfl⟩
            have hb2 := bnext bw8 (below_regrown W8 q.d q.os)
            generalize Sort.grow (redrawn W8 q.d) q.os = W2 at hb2 ⊢
            clear s0 s1 s2 s3 s4 s5' s6 s7 s8 s9 s10 s11 x0 x1 y0 y1 t0 t1 HU HV
            go_wp2_with fail
            go_ret
            exact ⟨ret_bool (by simp), hb2⟩
set_option maxHeartbeats 1000000 in
theorem runs_big (x c : Int) (va vb : Value) (al bl : List Bool) (w : World) (ha : BIn w.heap.size w va al) (hb : BIn w.heap.size w vb bl) (hl : ¬ (al.length ≤ 1024 ∧ bl.length ≤ 1024)) :
    Calls Try.prog 13 #[.agg #[.int .i64 x, .int .i64 c], va, vb] w fun e w' => e = .returned (.bool true) ∧ Below w.heap.size w w' := by
  obtain ⟨aa, ca, rfl⟩ := ha.len
  obtain ⟨ab, cb, rfl⟩ := hb.len
  generalize al.length = n at hl ⊢
  generalize bl.length = m at hl ⊢
  clear ha hb
  have bA : Below w.heap.size w (w.alloc (.cells #[.int .i64 x, .int .i64 c] 65)) := balloc (Below.refl _ _) _
  by_cases hn : n ≤ 1024
  · have hm : ¬ m ≤ 1024 := fun h => hl ⟨hn, h⟩
    go_enter Try.func13, Try.ntmps13
    go_wp2_with (first | (with_reducible refine (shown20 _).mono ?_; rintro e w1 ⟨rfl, hb1⟩))
    go_ret
    exact ⟨ret_bool (by simp), bnext bA hb1⟩
  · go_enter Try.func13, Try.ntmps13
    go_wp2_with (first | (with_reducible refine (shown20 _).mono ?_; rintro e w1 ⟨rfl, hb1⟩))
    go_ret
    exact ⟨ret_bool (by simp), bnext bA hb1⟩
theorem paceRuns_walk (x c : Int) {va vb : Value} {al bl : List Bool} {w : World} (ha : BIn w.heap.size w va al) (hb : BIn w.heap.size w vb bl) :
    Calls Try.prog 13 #[.agg #[.int .i64 x, .int .i64 c], va, vb] w fun e w' => e = .returned (.bool true) ∧ Below w.heap.size w w' := by
  by_cases h : al.length ≤ 1024 ∧ bl.length ≤ 1024
  · exact runs_walk x c va vb al bl w ha hb h.1 h.2
  · exact runs_big x c va vb al bl w ha hb h
end Go.Proofs.Ytmgfnejiienghaa
