/- The walk over pace.Run. -/
import Derived.Test.YtmgfnejiienghaaM11
import Derived.WalkMore
namespace Go.Proofs.Ytmgfnejiienghaa
open Go.RowKit Go.IntWalk
set_option linter.unusedVariables false
set_option maxRecDepth 100000

/-- a slice of bools, as it lies in memory -/
def BRow (W : World) (v : Value) (bs : List Bool) : Prop :=
  (bs = [] ∧ ∃ a c, v = .slice a 0 c) ∨ ∃ g o c, v = .slice (some ⟨g, o, none⟩) bs.length c ∧ bs.length ≤ c ∧ g < W.heap.size ∧ ∀ i b, bs[i]? = some b → W.cell? ⟨g, o + i, none⟩ = some (.bool b)
theorem BRow.below {W W' : World} {v : Value} {bs : List Bool} (h : BRow W v bs) (hb : Below W.heap.size W W') : BRow W' v bs := by
  rcases h with h | ⟨g, o, c, rfl, h1, h2, h3⟩
  · exact .inl h
  · exact .inr ⟨g, o, c, rfl, h1, Nat.lt_of_lt_of_le h2 hb.size, fun i b hi => by rw [hb.cell (p := ⟨g, o + i, none⟩) h2]; exact h3 i b hi⟩
def pRunH (p d : Int) : List Bool → Int × Int
  | [] => (p, d)
  | q :: t => pRunH (pNext p d q).1 (pNext p d q).2 t
def pRun (x c : Int) (bs : List Bool) : Int × Int := pRunH (clampI x 6 10) (clampI c (-30) 30) bs
def vlen : Value → Nat
  | .slice _ n _ => n
  | _ => 0
/-- what memory holds in Run: what is set, the pace, the result -/
structure PM (B : Nat) (p d : Int) (w W : World) : Prop where
  s : W.heap[B]? = some (.cells stdP 26 (0, 0))
  x : W.heap[B + 1]? = some (.cells #[.int .i64 p, .int .i64 d] 65 (0, 0))
  r : W.heap[B + 1 + 1]? = some (.cells #[.int .i64 0, .int .i64 0] 65 (0, 0))
  sz : B + 1 + 1 < W.heap.size
  bw : Below w.heap.size w W
  hB : w.heap.size ≤ B
theorem PM.below {B : Nat} {p d : Int} {w W W' : World} (h : PM B p d w W) (hb : Below W.heap.size W W') : PM B p d w W' := by
  have hz := h.sz
  have := hb.size
  exact ⟨by rw [hb.block _ (by omega)]; exact h.s, by rw [hb.block _ (by omega)]; exact h.x, by rw [hb.block _ (by omega)]; exact h.r, by omega, bnext h.bw hb, h.hB⟩
theorem PM.row {B : Nat} {p d p' d' : Int} {w W : World} (h : PM B p d w W) : PM B p' d' w (W.setRow (B + 1) #[.int .i64 p', .int .i64 d']) :=
  ⟨by rw [setRow_other _ _ _ _ (by omega)]; exact h.s, setRow_heap _ _ _ _ _ _ h.x, by rw [setRow_other _ _ _ _ (by omega)]; exact h.r, by have := h.sz; simpa using this, below_setRow h.bw (by have := h.hB; omega) _, h.hB⟩
/-- the bools lie below what was laid -/
def BLow (n : Nat) (W : World) (v : Value) (bs : List Bool) : Prop :=
  (bs = [] ∧ ∃ a c, v = .slice a 0 c) ∨ ∃ g o c, v = .slice (some ⟨g, o, none⟩) bs.length c ∧ bs.length ≤ c ∧ g < n ∧ ∀ i b, bs[i]? = some b → W.cell? ⟨g, o + i, none⟩ = some (.bool b)
theorem BLow.to {n : Nat} {W W' : World} {v : Value} {bs : List Bool} (h : BLow n W v bs) (hb : Below n W W') : BLow n W' v bs := by
  rcases h with h | ⟨g, o, c, rfl, h1, h2, h3⟩
  · exact .inl h
  · exact .inr ⟨g, o, c, rfl, h1, h2, fun i b hi => by rw [hb.cell (p := ⟨g, o + i, none⟩) h2]; exact h3 i b hi⟩
theorem BLow.tail {n : Nat} {W : World} {q : Bool} {t : List Bool} {g o c : Nat} (h1 : (q :: t).length ≤ c) (h2 : g < n) (h3 : ∀ i b, (q :: t)[i]? = some b → W.cell? ⟨g, o + i, none⟩ = some (.bool b)) : BLow n W (.slice (some ⟨g, o + 1, none⟩) t.length (c - 1)) t := by
  simp only [List.length_cons] at h1
  exact .inr ⟨g, o + 1, c - 1, rfl, by omega, h2, fun i b hi => by rw [show o + 1 + i = o + (i + 1) by omega]; exact h3 (i + 1) b (by simpa using hi)⟩
set_option maxHeartbeats 1000000 in
theorem run_any (x c : Int) (bs : List Bool) (v : Value) (w : World) (hrow : BLow w.heap.size w v bs) :
    Calls Try.prog 34 #[.agg stdP, .agg #[.int .i64 x, .int .i64 c], v] w fun e w' => e = .returned (.agg #[.int .i64 (pRun x c bs).1, .int .i64 (pRun x c bs).2]) ∧ Below w.heap.size w w' := by
  have HH := Lib.hid (heldp_any x c)
  have HN := Lib.hid next_any
  have HR : Hid (pRun x c bs = pRunH (clampI x 6 10) (clampI c (-30) 30) bs) := Lib.hid rfl
  generalize clampI x 6 10 = p at HH HR
  generalize clampI c (-30) 30 = d at HH HR
  go_enter Try.func34, Try.ntmps34
  go_wp2_with fail
  obtain ⟨W, HW, HB, BB⟩ := three_rows w (.cells stdP 26) (.cells #[.int .i64 x, .int .i64 c] 65) (.cells #[.int .i64 0, .int .i64 0] 65)
  have hsz : w.heap.size + 1 + 1 < W.heap.size := (Array.getElem?_eq_some_iff.1 HB.2.2).1
  have hp : PM w.heap.size x c w W := ⟨HB.1, HB.2.1, HB.2.2, hsz, BB, Nat.le_refl _⟩
  rw [HW.out]
  clear HW HB BB hsz
  go_step3
  go_wp2_with (first
    | (refine wpList_load_row rfl 65 (.tmp 4) rfl _ rfl _ _ _ _ hp.x Try.underlying65 rfl (by kernel_rfl) ?_)
    | (refine wpList_load_row rfl 26 (.tmp 3) rfl _ rfl _ _ _ _ hp.s Try.underlying26 rfl (by kernel_rfl) ?_)
    | (with_reducible refine (HH.out _).mono ?_; rintro e w1 ⟨rfl, hb1⟩; replace hp := hp.below hb1; clear hb1; obtain ⟨wq, rfl⟩ : ∃ wq : World, wq = w1 := ⟨_, rfl⟩)
    | (refine wpList_store_row rfl 65 (.tmp 4) (.tmp 9) rfl _ #[.int .i64 p, .int .i64 d] rfl rfl _ _ hp.x (by kernel_rfl) rfl (pace_one _ _) ?_; replace hp := hp.row (p' := p) (d' := d); generalize wq.setRow (w.heap.size + 1) #[.int .i64 p, .int .i64 d] = W1 at hp ⊢))
  replace hrow := hrow.to hp.bw
  go_step3
  simp only [Act.put]
  go_wp2_with fail
  go_loopw [2] (fun v wr => ∃ t p' d', BLow w.heap.size wr v t ∧ PM w.heap.size p' d' w wr ∧ Hid (pRun x c bs = pRunH p' d' t)) (fun v _ => vlen v)
  case atStart => exact ⟨bs, p, d, hrow, hp, HR⟩
  case round =>
    clear hrow hp HR HH
    obtain ⟨t, p', d', hrow, hp, HR⟩ := hrel
    rcases t with _ | ⟨q, t⟩
    · obtain ⟨a, k, rfl⟩ : ∃ a k, u2 = .slice a 0 k := by
        rcases hrow with ⟨_, h⟩ | ⟨g, o, k, h, _⟩
        · exact h
        · exact ⟨_, k, h⟩
      go_wp2_with (first
        | (refine wpList_load_row rfl 65 (.tmp 4) rfl _ rfl _ _ _ _ hp.x Try.underlying65 rfl (by kernel_rfl) ?_)
        | (refine wpList_store_row rfl 65 (.tmp 6) (.tmp 21) rfl _ #[.int .i64 p', .int .i64 d'] rfl rfl _ _ hp.r (by kernel_rfl) rfl (pace_one _ _) ?_))
      rw [Exit.noGoto_ret]
      exact bodyPost_ret (v := .agg #[.int .i64 p', .int .i64 d']) (results_cell_row rfl _ _ (w.heap.size + 1 + 1) _ _ _ _ rfl (setRow_heap _ _ _ _ _ _ hp.r) Try.underlying65 rfl (by kernel_rfl)) rfl ⟨by rw [HR.out]; rfl, below_setRow hp.bw (by omega) _⟩
    · obtain ⟨g, o, k, rfl, h1, h2, h3⟩ : ∃ g o k, u2 = .slice (some ⟨g, o, none⟩) (q :: t).length k ∧ (q :: t).length ≤ k ∧ g < w.heap.size ∧ ∀ i b, (q :: t)[i]? = some b → wr.cell? ⟨g, o + i, none⟩ = some (.bool b) := by
        rcases hrow with ⟨h, _⟩ | h
        · cases h
        · exact h
      have hq := h3 0 q rfl
      have ht := BLow.tail h1 h2 h3
      simp only [List.length_cons] at h1 ⊢
      go_wp2_with fail
      refine wp_region_any (by kernel_rfl) ?_
      change wpAny _ _ _ _ _ _ _ (World.drew _)
      refine wpAny_take (i := 6) rfl (by kernel_rfl) (by kernel_rfl) (by kernel_rfl) (fun _ _ _ h => h) (.inl ⟨by simp [Region.wanted], fun w => by go_simp; rfl⟩) ?_
      refine wpAny_take (i := 7) (v := .slice (if k = 1 then some ⟨g, o, none⟩ else some ⟨g, o + 1, none⟩) t.length (k - 1)) rfl (by kernel_rfl) (by kernel_rfl) (by kernel_rfl) (fun _ _ _ h => h) (.inl ⟨by simp [Region.wanted], fun w => by
        go_simp
        all_goals first | rfl | (intro hh; exfalso; omega) | (rw [if_pos (by omega)])⟩) ?_
      have ht' : BLow w.heap.size wr (.slice (if k = 1 then some ⟨g, o, none⟩ else some ⟨g, o + 1, none⟩) t.length (k - 1)) t := by
        by_cases hk : k = 1
        · have : t = [] := by cases t with
            | nil => rfl
            | cons _ _ => simp only [List.length_cons] at h1; omega
          subst this
          exact .inl ⟨rfl, _, _, rfl⟩
        · rw [if_neg hk]; exact ht
      generalize (if k = 1 then some (⟨g, o, none⟩ : Addr) else some ⟨g, o + 1, none⟩) = sa at ht' ⊢
      have hq' : ∀ d os, (Sort.grow (redrawn wr d) os).cell? ⟨g, o, none⟩ = some (.bool q) := cell_regrown (by simpa using hq)
      refine wpAny_below_from (C := fun w' => ∃ p : Regrown, w' = Sort.grow (redrawn wr p.d) p.os) 8 [0, 1, 2, 3, 4, 5] _ _ rfl (by kernel_rfl) ⟨⟨wr.drawn + 1, #[]⟩, by rw [Sort.grow_empty]; rfl⟩ ?_
      simp only [List.filterMap_cons, List.filterMap_nil, List.getElem?_toArray, List.getElem?_cons_zero, List.getElem?_cons_succ, List.drop_succ_cons, List.drop_zero]
      obtain ⟨y, hy⟩ : ∃ y, (pNext p' d' q).1 = y := ⟨_, rfl⟩
      obtain ⟨z, hz⟩ : ∃ z, (pNext p' d' q).2 = z := ⟨_, rfl⟩
      have HN' := Lib.hid (HN.out p' d' q)
      rw [hy, hz] at HN'
      have HR' : Hid (pRun x c bs = pRunH y z t) := Lib.hid (by rw [HR.out, ← hy, ← hz]; rfl)
      refine wpQuiet_load_row rfl 65 (.tmp 4) rfl _ rfl _ _ _ _ (row_regrown hp.x) Try.underlying65 rfl (by kernel_rfl) ?_
      refine wpQuiet_load_row rfl 26 (.tmp 3) rfl _ rfl _ _ _ _ (row_regrown hp.s) Try.underlying26 rfl (by kernel_rfl) ?_
      repeat (quiet_step (with_reducible refine Calls.regrown_of (HN'.out _)))
      refine wpQuiet_nil ?_
      rintro _ ⟨p2, rfl⟩
      have hp2 := hp.below (below_regrown wr p2.d p2.os)
      have ht2 := ht'.to ((below_regrown wr p2.d p2.os).mono hp.bw.size)
      generalize Sort.grow (redrawn wr p2.d) p2.os = W2 at hp2 ht2 ⊢
      clear hq hq' hp ht' ht h1 h2 h3 hrow
      go_wp2_with (refine wpList_store_row rfl 65 (.tmp 4) (.tmp 18) rfl _ #[.int .i64 y, .int .i64 z] rfl rfl _ _ hp2.x (by kernel_rfl) rfl (pace_one _ _) ?_; replace ht2 := ht2.to (below_setRow (Below.refl _ W2) (by have := hp2.hB; omega : w.heap.size ≤ w.heap.size + 1) #[.int .i64 y, .int .i64 z]); replace hp2 := hp2.row (p' := y) (d' := z); generalize W2.setRow (w.heap.size + 1) #[.int .i64 y, .int .i64 z] = W3 at hp2 ht2 ⊢)
      go_roundw
      case rel => exact ⟨t, y, z, ht2, hp2, HR'⟩
      case measure => simp [vlen]
end Go.Proofs.Ytmgfnejiienghaa
