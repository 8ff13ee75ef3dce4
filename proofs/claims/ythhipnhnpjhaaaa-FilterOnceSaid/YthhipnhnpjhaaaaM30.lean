/- Several texts in one. -/
import Derived.Test.YthhipnhnpjhaaaaM29
/- Law 14: the sort of a filter's samples: insertion, plainly; its two loops as the evaluator has them. -/
namespace Go.Proofs.Ythhipnhnpjhaaaa
open Go Go.RowKit Ev
set_option linter.unusedVariables false
set_option linter.unusedSimpArgs false
set_option maxRecDepth 100000
set_option maxHeartbeats 0

theorem pre_of_eq {α : Type} {a b : List α} (h : a = b) : a <+: b := h ▸ List.prefix_rfl
theorem AllIn.app {f : Nat → Int} : ∀ {l m : List (Int × Int)} {i : Nat}, AllIn f l i → AllIn f m (i + l.length) → AllIn f (l ++ m) i
  | [], m, i, _, h => by simpa using h
  | v :: l, m, i, h1, h2 => ⟨h1.1, AllIn.app h1.2 (by rw [List.length_cons] at h2; rwa [show i + 1 + l.length = i + (l.length + 1) by omega])⟩
theorem AllIn.rep {f : Nat → Int} {v : Int × Int} : ∀ {n i : Nat}, (∀ j, j < n → v.1 ≤ f (i + j) ∧ f (i + j) ≤ v.2) → AllIn f (List.replicate n v) i
  | 0, i, _ => trivial
  | n + 1, i, h => ⟨by simpa using h 0 (by omega), AllIn.rep (fun j hj => by have := h (j + 1) (by omega); rwa [show i + 1 + j = i + (j + 1) by omega])⟩
theorem AllIn.one {f : Nat → Int} {v : Int × Int} {i : Nat} (h : v.1 ≤ f i ∧ f i ≤ v.2) : AllIn f [v] i := ⟨h, trivial⟩
theorem AllIn.congr {f g : Nat → Int} : ∀ {l : List (Int × Int)} {i : Nat}, (∀ j, j < l.length → g (i + j) = f (i + j)) → AllIn f l i → AllIn g l i
  | [], i, _, _ => trivial
  | v :: l, i, h, h1 => ⟨by have := h 0 (by simp); rw [Nat.add_zero] at this; rw [this]; exact h1.1, AllIn.congr (fun j hj => by have := h (j + 1) (by simpa using hj); rwa [show i + 1 + j = i + (j + 1) by omega]) h1.2⟩

/-! insertion -/
def insF (d : Nat → Int) : Nat → (Nat → Nat) → Nat → Nat
  | 0, r => r
  | j + 1, r => if d (r (j + 1)) < d (r j) then insF d j (fun k => if k = j + 1 then r j else if k = j then r (j + 1) else r k) else r
def srtF (d : Nat → Int) : Nat → Nat → Nat
  | 0 => fun k => k
  | i + 1 => insF d (i + 1) (srtF d i)
theorem insF_far {d : Nat → Int} : ∀ {j : Nat} {r : Nat → Nat} {k : Nat}, j < k → insF d j r k = r k
  | 0, r, k, _ => rfl
  | j + 1, r, k, h => by
    unfold insF
    split
    · rw [insF_far (by omega), if_neg (by omega), if_neg (by omega)]
    · rfl
theorem insF_from {d : Nat → Int} : ∀ {j : Nat} {r : Nat → Nat} {b : Nat}, b ≤ j → ∃ k, k ≤ j ∧ insF d j r b = r k
  | 0, r, b, h => ⟨b, h, rfl⟩
  | j + 1, r, b, h => by
    unfold insF
    split
    · by_cases hb : b = j + 1
      · subst hb
        exact ⟨j, by omega, by rw [insF_far (by omega), if_pos rfl]⟩
      · obtain ⟨k, h1, h2⟩ := insF_from (d := d) (j := j) (r := fun k => if k = j + 1 then r j else if k = j then r (j + 1) else r k) (b := b) (by omega)
        rw [h2]
        by_cases hk : k = j
        · exact ⟨j + 1, by omega, by rw [if_neg (by omega), if_pos hk]⟩
        · exact ⟨k, by omega, by rw [if_neg (by omega), if_neg hk]⟩
    · exact ⟨b, h, rfl⟩
theorem insF_to {d : Nat → Int} : ∀ {j : Nat} {r : Nat → Nat} {k : Nat}, k ≤ j → ∃ b, b ≤ j ∧ insF d j r b = r k
  | 0, r, k, h => ⟨k, h, rfl⟩
  | j + 1, r, k, h => by
    unfold insF
    split
    · by_cases hk : k = j
      · subst hk
        exact ⟨k + 1, by omega, by rw [insF_far (by omega), if_pos rfl]⟩
      · obtain ⟨b, h1, h2⟩ := insF_to (d := d) (j := j) (r := fun k => if k = j + 1 then r j else if k = j then r (j + 1) else r k) (k := if k = j + 1 then j else k) (by split <;> omega)
        refine ⟨b, by omega, ?_⟩
        rw [h2]
        by_cases hk1 : k = j + 1
        · rw [if_pos hk1, if_neg (by omega), if_pos rfl, hk1]
        · rw [if_neg hk1, if_neg hk1, if_neg hk]
    · exact ⟨k, h, rfl⟩
theorem insF_sorted {d : Nat → Int} : ∀ {j : Nat} {r : Nat → Nat}, (∀ a b, a ≤ b → b < j → d (r a) ≤ d (r b)) → ∀ a b, a ≤ b → b ≤ j → d (insF d j r a) ≤ d (insF d j r b)
  | 0, r, h, a, b, hab, hb => by
    obtain rfl : a = b := by omega
    exact Int.le_refl _
  | j + 1, r, h, a, b, hab, hb => by
    unfold insF
    split
    · rename_i hlt
      have hs := insF_sorted (d := d) (j := j) (r := fun k => if k = j + 1 then r j else if k = j then r (j + 1) else r k) (fun x y hxy hy => by
        rw [if_neg (by omega), if_neg (by omega), if_neg (by omega), if_neg (by omega)]
        exact h x y hxy (by omega))
      by_cases hbj : b = j + 1
      · subst hbj
        by_cases haj : a = j + 1
        · subst haj; exact Int.le_refl _
        · obtain ⟨k, h1, h2⟩ := insF_from (d := d) (j := j) (r := fun k => if k = j + 1 then r j else if k = j then r (j + 1) else r k) (b := a) (by omega)
          rw [h2, insF_far (k := j + 1) (by omega), if_pos rfl, if_neg (show ¬ k = j + 1 by omega)]
          split
          · exact Int.le_of_lt hlt
          · exact h k j (by omega) (by omega)
      · exact hs a b hab (by omega)
    · rename_i hge
      by_cases hbj : b = j + 1
      · subst hbj
        by_cases haj : a = j + 1
        · subst haj; exact Int.le_refl _
        · exact Int.le_trans (h a j (by omega) (by omega)) (by omega)
      · exact h a b hab (by omega)
theorem insF_in {d : Nat → Int} {m j : Nat} {r : Nat → Nat} (hr : ∀ k, k < m → r k < m) (hj : j < m) {k : Nat} (hk : k < m) : insF d j r k < m := by
  by_cases h : k ≤ j
  · obtain ⟨x, h1, h2⟩ := insF_from (d := d) (r := r) h
    rw [h2]
    exact hr x (by omega)
  · rw [insF_far (by omega)]
    exact hr k hk
theorem insF_congr {d : Nat → Int} : ∀ {j m : Nat} {r s : Nat → Nat}, j < m → (∀ k, k < m → r k = s k) → ∀ k, k < m → insF d j r k = insF d j s k
  | 0, m, r, s, hj, h, k, hk => h k hk
  | j + 1, m, r, s, hj, h, k, hk => by
    unfold insF
    rw [h (j + 1) hj, h j (by omega)]
    split
    · refine insF_congr (by omega : j < m) (fun k hk => ?_) k hk
      split
      · rfl
      · split
        · rfl
        · exact h k hk
    · exact h k hk
theorem srtF_far {d : Nat → Int} : ∀ {i k : Nat}, i < k → srtF d i k = k
  | 0, k, _ => rfl
  | i + 1, k, h => by
    unfold srtF
    rw [insF_far h, srtF_far (by omega)]
theorem srtF_in {d : Nat → Int} {m : Nat} : ∀ {i k : Nat}, i < m → k < m → srtF d i k < m
  | 0, k, _, hk => hk
  | i + 1, k, hi, hk => insF_in (fun x hx => srtF_in (by omega) hx) hi hk
theorem srtF_to {d : Nat → Int} : ∀ {i k : Nat}, k ≤ i → ∃ a, a ≤ i ∧ srtF d i a = k
  | 0, k, h => ⟨k, h, rfl⟩
  | i + 1, k, h => by
    have h1 : ∃ a, a ≤ i + 1 ∧ srtF d i a = k := by
      by_cases hk : k = i + 1
      · exact ⟨i + 1, Nat.le_refl _, by rw [srtF_far (by omega), hk]⟩
      · obtain ⟨a, h1, h2⟩ := srtF_to (d := d) (i := i) (k := k) (by omega)
        exact ⟨a, by omega, h2⟩
    obtain ⟨a, ha, hk⟩ := h1
    obtain ⟨b, hb, h2⟩ := insF_to (d := d) (r := srtF d i) ha
    exact ⟨b, hb, by unfold srtF; rw [h2, hk]⟩
theorem srtF_sorted {d : Nat → Int} : ∀ {i : Nat}, ∀ a b, a ≤ b → b ≤ i → d (srtF d i a) ≤ d (srtF d i b)
  | 0, a, b, hab, hb => by
    obtain rfl : a = b := by omega
    exact Int.le_refl _
  | i + 1, a, b, hab, hb => insF_sorted (fun x y hxy hy => srtF_sorted x y hxy (by omega)) a b hab hb
theorem srtF_min {d : Nat → Int} {i k : Nat} (h : k ≤ i) : d (srtF d i 0) ≤ d k := by
  obtain ⟨a, h1, h2⟩ := srtF_to (d := d) h
  rw [← h2]
  exact srtF_sorted 0 a (by omega) h1

theorem insF_dcongr {d e : Nat → Int} : ∀ {j : Nat} {r : Nat → Nat}, (∀ x, x ≤ j → d (r x) = e (r x)) → insF d j r = insF e j r
  | 0, r, _ => rfl
  | j + 1, r, h => by
    unfold insF
    rw [h (j + 1) (Nat.le_refl _), h j (by omega)]
    split
    · refine insF_dcongr fun x hx => ?_
      rw [if_neg (by omega)]
      split
      · exact h _ (Nat.le_refl _)
      · exact h x (by omega)
    · rfl
theorem srtF_dcongr {d e : Nat → Int} {m : Nat} : ∀ {i : Nat}, i < m → (∀ x, x < m → d x = e x) → srtF d i = srtF e i
  | 0, _, _ => rfl
  | i + 1, hi, h => by
    unfold srtF
    rw [srtF_dcongr (by omega : i < m) h]
    exact insF_dcongr fun x hx => h _ (srtF_in (d := e) (m := m) (by omega) (by omega))
/-! environments out of functions -/
theorem on_lo {ρ : Env} {N : Nat} {tail : List Int} {bs : List Bool} {n : Nat} (h : n < N) : (ρ.on ((List.range N).map ρ.i ++ tail) bs).i n = ρ.i n := by
  show List.getD _ _ _ = _
  rw [List.getD_eq_getElem?_getD, List.getElem?_append_left (by simpa using h), List.getElem?_map, List.getElem?_range h]; rfl
theorem on_hi {ρ : Env} {N : Nat} {tail : List Int} {bs : List Bool} (t : Nat) : (ρ.on ((List.range N).map ρ.i ++ tail) bs).i (N + t) = tail.getD t 0 := by
  show List.getD _ _ _ = _
  rw [List.getD_eq_getElem?_getD, List.getElem?_append_right (by simp), List.getD_eq_getElem?_getD]
  simp
theorem getD_map {f : Nat → Int} {m k : Nat} (h : k < m) : ((List.range m).map f).getD k 0 = f k := by
  rw [List.getD_eq_getElem?_getD, List.getElem?_map, List.getElem?_range h]; rfl
def vrs (n : Nat) : List IE := (List.range n).map .var
theorem dens_vrs {ρ : Env} {n : Nat} : dens ρ (vrs n) = (List.range n).map ρ.i := by
  simp only [dens, vrs, List.map_map]
  rfl
theorem dens_app {ρ : Env} (a b : List IE) : dens ρ (a ++ b) = dens ρ a ++ dens ρ b := List.map_append
theorem dens_map {ρ : Env} {m : Nat} {f : Nat → IE} : dens ρ ((List.range m).map f) = (List.range m).map fun k => (f k).den ρ := by
  simp only [dens, List.map_map]
  rfl
theorem map_range_congr {α : Type} {f g : Nat → α} {n : Nat} (h : ∀ k, k < n → f k = g k) : (List.range n).map f = (List.range n).map g := List.map_congr_left fun k hk => h k (List.mem_range.1 hk)
theorem has_fun {ρ : Env} {n : Nat} {g : Nat → Int} {bs : List Bool} (hg : ∀ k, k < n → ρ.i k = g k) (hb : ∀ i x, bs[i]? = some x → ρ.b i = x) : ρ.has ((List.range n).map g) bs := by
  refine ⟨fun i x h => ?_, hb⟩
  rw [List.getElem?_map] at h
  obtain ⟨k, hk, rfl⟩ := Option.map_eq_some_iff.1 h
  have hlt := (List.getElem?_eq_some_iff.1 hk).1
  rw [List.length_range] at hlt
  rw [List.getElem?_range hlt] at hk
  cases hk
  exact hg i hlt
theorem map_range_app {f : Nat → Int} {g : Nat → Int} {n m : Nat} : (List.range n).map f ++ (List.range m).map g = (List.range (n + m)).map fun k => if k < n then f k else g (k - n) := by
  apply List.ext_getElem?
  intro k
  rw [List.getElem?_map]
  by_cases h : k < n
  · rw [List.getElem?_append_left (by simpa using h), List.getElem?_map, List.getElem?_range h, List.getElem?_range (by omega)]
    simp [h]
  · rw [List.getElem?_append_right (by simp; omega), List.getElem?_map, List.length_map, List.length_range]
    by_cases h2 : k < n + m
    · rw [List.getElem?_range (by omega), List.getElem?_range h2]; simp [h]
    · rw [List.getElem?_eq_none (by simp; omega), List.getElem?_eq_none (by simp; omega)]; rfl

/-! the loops -/
abbrev i64I : Int × Int := (-9223372036854775808, 9223372036854775807)
/-- the numbers of Tell: places; cells; what was told; now; what is sorted; own, total; here, apart, squares, sums -/
def oR : List (Int × Int) := List.replicate 8 (0, 7) ++ (List.replicate 87 i64I ++ (List.replicate 16 satR ++ (List.replicate 8 (0, 9223372036854775807) ++ (List.replicate 8 (0, 8) ++ List.replicate 8 u64S))))
abbrev oD : Nat := 1153009465539166213
abbrev oF : Nat := 1153009465539166209
def oT (m : Nat) (t8 t9 : SV) : List SV := [.slice oD 0 m m, .int .i64 (.lit 0), .int .i64 (.lit m), .func (.func 93) [] [.ptr oF 0], .any, .any, .any, .any, t8, t9] ++ List.replicate 43 .any
def oFc (m : Nat) : List SV := (List.range 40).map (fun k => .int .i64 (.var (8 + k))) ++ [.int .i64 (.lit m), .bool (.var 0), .int .i64 (.var 48), .int .i64 (.var 49), .int .i64 (.var 50), .int .i64 (.var 51)]
def oB (m : Nat) (d : List SV) : List (Nat × Blk) := [(oD, ⟨3, d⟩), (oF, ⟨29, oFc m⟩)]
def oV (v m : Nat) : List SV := (List.range m).map fun k => .int .i64 (.var (v + k))
def inL (m : Nat) : LoopSum := ⟨oT m (.int .i64 (.var 135)) (.int .i64 (.var 135)), oB m (oV 136 m), .exit 2, oT m (.int .i64 (.var 135)) .any, oB m (oV (136 + m) m)⟩
def inH (m : Nat) : St := ⟨Tm.ofL (oT m (.int .i64 (.var 135)) (.int .i64 (.var (136 + 2 * m)))), oB m (oV (137 + 2 * m) m)⟩
def inE (m : Nat) : List IE := vrs (136 + 2 * m) ++ (.var 135 :: (List.range m).map fun k => .var (136 + k))
def inR (m : Nat) : List (Int × Int) := oR ++ ((1, (m : Int)) :: List.replicate (3 * m + 1) (0, (m : Int) - 1))
def inX (m : Nat) : Ctx := { pc := [], rg := inR m, sy := true }
def selI (v : Nat) : IE := .wr .i64 (selSum (.var v) 0 ((List.range 8).map fun k => .var (9 + 5 * k)))
def inS (m : Nat) : RT := .stop (vrs (136 + m) ++ (List.range m).map fun k => .var (137 + 2 * m + k)) [.var 0]
def inG (m c : Nat) : RT := .go (vrs (136 + 2 * m) ++ (.pl .sub (.var (136 + 2 * m)) (.lit 1) :: (List.range m).map fun k => .var (137 + 2 * m + (if k = c then c - 1 else if k = c - 1 then c else k)))) [.var 0]
def inK (m c : Nat) : RT := .node (.cmp .lss (selI (137 + 2 * m + c)) (selI (137 + 2 * m + (c - 1)))) (inG m c) (.node (.cmp .lss (selI (137 + 2 * m + (c - 1))) (selI (137 + 2 * m + c))) (inS m) (inS m))
def inC (m : Nat) : Nat → Nat → RT
  | _, 0 => .dead
  | c, n + 1 => .node (.cmp .eql (.var (136 + 2 * m)) (.lit c)) (inK m c) (inC m (c + 1) n)
def inT (m : Nat) : RT := .node (.cmp .lss (.lit 0) (.var (136 + 2 * m))) (inC m 1 (m - 1)) (inS m)
abbrev inP : List Nat := [0, 1, 0, 0, 1, 0, 0, 1]
theorem selI_den {ρ : Env} {v k : Nat} (hv : ρ.i v = k) (hk : k < 8) (hd : InI (ρ.i (9 + 5 * k))) : (selI v).den ρ = ρ.i (9 + 5 * k) := by
  unfold selI
  simp only [IE.den]
  rw [selSum_den (i := k) (show (IE.var v).den ρ = k from hv), if_pos (Nat.zero_le _), Nat.sub_zero, List.getElem?_map, List.getElem?_range hk]
  exact Ev.wrap_within (k := .i64) hd
theorem inC_at {m j : Nat} {ρ : Env} (hj : ρ.i (136 + 2 * m) = j) : ∀ (n c : Nat), c ≤ j → j < c + n → (inC m c n).next ρ = (inK m j).next ρ ∧ (inC m c n).out ρ = (inK m j).out ρ
  | 0, c, h1, h2 => by omega
  | n + 1, c, h1, h2 => by
    simp only [inC, RT.next, RT.out, BE.den, IE.den, cmpI, hj]
    by_cases h : j = c
    · subst h; simp
    · rw [beq_false_of_ne (by omega : ((j : Int)) ≠ (c : Int))]
      simp only [cond_false]
      exact inC_at hj n (c + 1) (by omega) (by omega)
theorem in_goes {m : Nat} (hm1 : 2 ≤ m) (hm : m ≤ 8) (hB : lpB Try.prog (inX m) 1000 104 inP 3 (inL m) (inH m) (inT m) (inE m) [.var 0] = true) {c : Code} (hc : codeAt Try.prog 104 inP = .loop c) {ρ : Env} {E : List (Nat × Nat)}
    (hR : AllIn ρ.i oR 0) {i : Nat} (hi : ρ.i 135 = i) (hi1 : 1 ≤ i) (him : i < m) {r0 : Nat → Nat} (hp : ∀ k, k < m → ρ.i (136 + k) = r0 k) (hr0 : ∀ k, k < m → r0 k < m)
    (hq : ∀ k, k < m → ρ.i (136 + m + k) = (insF (fun k => ρ.i (9 + 5 * k)) i r0 k : Nat)) : LoopGoes Try.prog ρ E (inL m) c := by
  have hd : ∀ k, k < 8 → InI (ρ.i (9 + 5 * k)) := fun k hk => by
    have := hR.get0 (9 + 5 * k) i64I (by
      unfold oR
      rw [List.getElem?_append_right (by simp; omega), List.getElem?_append_left (by simp; omega), List.getElem?_replicate]
      simp; omega)
    exact this
  refine rt_lpg mixed hB hc (ρ := ρ) (fun n is bs => ∃ (j : Nat) (r : Nat → Nat), n = j ∧ j < m ∧ (∀ k, k < m → r k < m) ∧ (∀ k, k < m → insF (fun k => ρ.i (9 + 5 * k)) j r k = insF (fun k => ρ.i (9 + 5 * k)) i r0 k) ∧ is = (List.range (136 + 2 * m)).map ρ.i ++ ((j : Int) :: (List.range m).map fun k => (r k : Int)) ∧ bs = [ρ.b 0]) ?_ ?_ ?_ ?_
  · rintro n is bs ⟨j, r, rfl, hj, hr, hins, rfl, rfl⟩
    refine knows_env rfl ?_ (fun f v h => by cases h)
    show AllIn _ (inR m) 0
    unfold inR
    refine AllIn.app (AllIn.congr (fun k hk => on_lo (by simp [oR] at hk; omega)) hR) ?_
    refine ⟨?_, ?_⟩
    · show _ ≤ (ρ.on _ _).i 135 ∧ (ρ.on _ _).i 135 ≤ _
      rw [on_lo (by omega), hi]; simp; omega
    · refine AllIn.rep (fun k hk => ?_)
      show 0 ≤ (ρ.on _ _).i (135 + 1 + k) ∧ (ρ.on _ _).i (135 + 1 + k) ≤ (m : Int) - 1
      by_cases h1 : k < m
      · rw [on_lo (by omega), show 135 + 1 + k = 136 + k by omega, hp k h1]; have := hr0 k h1; omega
      · by_cases h2 : k < 2 * m
        · rw [on_lo (by omega), show 135 + 1 + k = 136 + m + (k - m) by omega, hq (k - m) (by omega)]
          have := insF_in (d := fun k => ρ.i (9 + 5 * k)) hr0 him (k := k - m) (by omega)
          omega
        · rw [show 135 + 1 + k = 136 + 2 * m + (k - 2 * m) by omega, on_hi]
          by_cases h3 : k = 2 * m
          · subst h3; simp; omega
          · rw [show k - 2 * m = (k - 2 * m - 1) + 1 by omega, List.getD_cons_succ, getD_map (by omega)]
            have := hr (k - 2 * m - 1) (by omega)
            omega
  · rintro n is bs _ E
    exact knowsC_none rfl rfl rfl
  · refine ⟨i, _, _, ⟨i, r0, rfl, him, hr0, fun k hk => rfl, rfl, rfl⟩, ?_, List.prefix_rfl⟩
    unfold inE
    rw [dens_app, dens_vrs]
    refine pre_of_eq ?_
    congr 1
    show (ρ.i 135) :: dens ρ _ = _
    rw [hi, dens_map]
    congr 1
    exact map_range_congr fun k hk => hp k hk
  · rintro n is bs ⟨j, r, rfl, hj, hr, hins, rfl, rfl⟩
    generalize hρ : ρ.on ((List.range (136 + 2 * m)).map ρ.i ++ ((n : Int) :: (List.range m).map fun k => (r k : Int))) [ρ.b 0] = ρ'
    have lo : ∀ k, k < 136 + 2 * m → ρ'.i k = ρ.i k := fun k hk => by rw [← hρ]; exact on_lo hk
    have hJ : ρ'.i (136 + 2 * m) = (n : Nat) := by rw [← hρ]; have := on_hi (ρ := ρ) (N := 136 + 2 * m) (tail := (n : Int) :: (List.range m).map fun k => (r k : Int)) (bs := [ρ.b 0]) 0; simpa using this
    have hRk : ∀ k, k < m → ρ'.i (137 + 2 * m + k) = r k := fun k hk => by rw [← hρ, show 137 + 2 * m + k = 136 + 2 * m + (k + 1) by omega, on_hi, List.getD_cons_succ, getD_map hk]
    have hbs : bdens ρ' [.var 0] = [ρ.b 0] := by rw [← hρ]; rfl
    have sel : ∀ k, k < m → (selI (137 + 2 * m + k)).den ρ' = ρ.i (9 + 5 * r k) := fun k hk => by
      have h8 : r k < 8 := by have := hr k hk; omega
      rw [selI_den (hRk k hk) h8 (by rw [lo _ (by omega)]; exact hd _ h8), lo _ (by omega)]
    have stop : (∀ k, k < m → r k = insF (fun k => ρ.i (9 + 5 * k)) i r0 k) → ∃ is' bs', (inS m).out ρ' = some (is', bs') ∧ ρ.has is' bs' := fun hk => by
      refine ⟨_, _, rfl, ?_⟩
      rw [dens_app, dens_vrs, dens_map, map_range_app, hbs]
      refine has_fun (fun k hk' => ?_) (fun i x h => by cases i with | zero => (simp at h; exact h) | succ i => simp at h)
      split
      · rw [lo k (by omega)]
      · rename_i hge
        show _ = ρ'.i (137 + 2 * m + (k - (136 + m)))
        rw [hRk _ (by omega), hk _ (by omega), ← hq _ (by omega)]
        congr 1; omega
    cases n with
    | zero =>
      right
      have e : (inT m).out ρ' = (inS m).out ρ' := by
        simp only [inT, RT.out, BE.den, IE.den, cmpI, hJ]
        rfl
      rw [e]
      exact stop (fun k hk => hins k hk)
    | succ j =>
      have e1 := inC_at (m := m) (j := j + 1) (ρ := ρ') hJ (m - 1) 1 (by omega) (by omega)
      have hpos : decide ((0 : Int) < ((j + 1 : Nat) : Int)) = true := decide_eq_true (by omega)
      have en : (inT m).next ρ' = (inK m (j + 1)).next ρ' := by
        simp only [inT, RT.next, BE.den, IE.den, cmpI, hJ, hpos, cond_true]; exact e1.1
      have eo : (inT m).out ρ' = (inK m (j + 1)).out ρ' := by
        simp only [inT, RT.out, BE.den, IE.den, cmpI, hJ, hpos, cond_true]; exact e1.2
      have s1 := sel (j + 1) hj
      have s0 := sel j (by omega)
      by_cases hlt : ρ.i (9 + 5 * r (j + 1)) < ρ.i (9 + 5 * r j)
      · left
        refine ⟨(vrs (136 + 2 * m) ++ (IE.pl .sub (.var (136 + 2 * m)) (.lit 1) :: (List.range m).map fun k => IE.var (137 + 2 * m + (if k = j + 1 then j else if k = j then j + 1 else k)))).map (IE.den ρ'), [ρ.b 0], j, _, _, ?_, by omega, ⟨j, fun k => if k = j + 1 then r j else if k = j then r (j + 1) else r k, rfl, by omega, fun k hk => ?_, fun k hk => ?_, rfl, rfl⟩, ?_, ?_⟩
        · rw [en]
          simp only [inK, RT.next, BE.den, cmpI, Nat.add_sub_cancel, s1, s0, decide_eq_true hlt, cond_true, inG]
          rw [hbs]
          rfl
        · show (if k = j + 1 then r j else if k = j then r (j + 1) else r k) < m
          split
          · exact hr j (by omega)
          · split
            · exact hr _ hj
            · exact hr k hk
        · rw [← hins k hk]
          conv => rhs; unfold insF
          rw [if_pos hlt]
        · refine pre_of_eq ?_
          have := dens_app (ρ := ρ') (vrs (136 + 2 * m)) (.pl .sub (.var (136 + 2 * m)) (.lit 1) :: (List.range m).map fun k => .var (137 + 2 * m + (if k = j + 1 then j else if k = j then j + 1 else k)))
          refine this.trans ?_
          rw [dens_vrs, map_range_congr (fun k hk => lo k hk)]
          congr 1
          show (ρ'.i (136 + 2 * m) - 1) :: dens ρ' _ = _
          rw [hJ, dens_map]
          congr 1
          · omega
          · refine map_range_congr fun k hk => ?_
            show ρ'.i _ = ((if k = j + 1 then r j else if k = j then r (j + 1) else r k : Nat) : Int)
            split
            · rw [hRk j (by omega)]
            · split
              · rw [hRk _ hj]
              · rw [hRk k hk]
        · exact List.prefix_rfl
      · right
        have ho : (inT m).out ρ' = (inS m).out ρ' := by
          rw [eo]
          simp only [inK, RT.out, BE.den, cmpI, Nat.add_sub_cancel, s1, s0, decide_eq_false hlt, cond_false]
          cases decide (ρ.i (9 + 5 * r j) < ρ.i (9 + 5 * r (j + 1))) <;> rfl
        rw [ho]
        refine stop (fun k hk => ?_)
        rw [← hins k hk]
        unfold insF
        rw [if_neg hlt]

abbrev ouP : List Nat := [0, 1]
def ouL (m : Nat) : LoopSum := ⟨oT m (.int .i64 (.lit 1)) .any, oB m ((List.range m).map fun (k : Nat) => .int .i64 (.lit (k : Int))), .exit 0, oT m .any .any, oB m (oV 0 m)⟩
def ouH (m : Nat) : St := ⟨Tm.ofL (oT m (.int .i64 (.var 135)) .any), oB m (oV 136 m)⟩
def ouE (m : Nat) : List IE := vrs 135 ++ (.lit 1 :: (List.range m).map fun (k : Nat) => .lit (k : Int))
def ouR (m : Nat) : List (Int × Int) := oR ++ ((1, (m : Int)) :: List.replicate (2 * m) (0, (m : Int) - 1))
def inLp (m : Nat) (f : FuncId) (p : List Nat) (_ : Nat) : Option LoopSum := if Nat.beq f 104 && decide (p = inP) then some (inL m) else none
def ouX (m : Nat) : Ctx := { pc := [], rg := ouR m, lp := inLp m, sy := true }
def ouS (m : Nat) : RT := .stop ((List.range 135).map fun n => .var (if n < m then 136 + n else n)) [.var 0]
def ouT (m : Nat) : RT := if m = 1 then .dead else .node (.cmp .lss (.var 135) (.lit m)) (.go (vrs 135 ++ (.pl .add (.var 135) (.lit 1) :: (List.range m).map fun k => .var (136 + m + k))) [.var 0]) .dead
def ouT2 (m : Nat) : RT := if m = 1 then ouS m else .node (.cmp .lss (.var 135) (.lit m)) .dead (ouS m)
def ouX2 (m : Nat) : Ctx := { pc := [], rg := ouR m, sy := true }
theorem inLp_ok {m : Nat} {f : FuncId} {p : List Nat} {u : Nat} {L : LoopSum} (h : inLp m f p u = some L) : f = 104 ∧ p = inP ∧ L = inL m := by
  unfold inLp at h
  split at h
  · rename_i hc
    simp only [Bool.and_eq_true, Nat.beq_eq, decide_eq_true_eq] at hc
    cases h
    exact ⟨hc.1, hc.2, rfl⟩
  · cases h
theorem ou_goes {m : Nat} (hm1 : 1 ≤ m) (hm : m ≤ 8) (hB : lpB Try.prog (ouX m) 1000 104 ouP 1 (ouL m) (ouH m) (ouT m) (ouE m) [.var 0] = true) (hB2 : lpB Try.prog (ouX2 m) 1000 104 ouP 1 (ouL m) (ouH m) (ouT2 m) (ouE m) [.var 0] = true)
    (hI : 2 ≤ m → lpB Try.prog (inX m) 1000 104 inP 3 (inL m) (inH m) (inT m) (inE m) [.var 0] = true) {c : Code} (hc : codeAt Try.prog 104 ouP = .loop c) {ρ : Env} {E : List (Nat × Nat)}
    (hR : AllIn ρ.i oR 0) (hq : ∀ k, k < m → ρ.i k = (srtF (fun k => ρ.i (9 + 5 * k)) (m - 1) k : Nat)) : LoopGoes Try.prog ρ E (ouL m) c := by
  let d : Nat → Int := fun k => ρ.i (9 + 5 * k)
  refine rt_lpg2 mixed hB hB2 hc (ρ := ρ) (fun n is bs => ∃ i : Nat, 1 ≤ i ∧ n + i = m ∧ is = (List.range 135).map ρ.i ++ ((i : Int) :: (List.range (m + m)).map fun k => if k < m then (srtF d (i - 1) k : Int) else (srtF d (if i < m then i else i - 1) (k - m) : Int)) ∧ bs = [ρ.b 0]) ?_ ?_
  · refine ⟨m - 1, _, _, ⟨1, Nat.le_refl _, by omega, rfl, rfl⟩, ?_, List.prefix_rfl⟩
    unfold ouE
    rw [dens_app, dens_vrs]
    refine (List.prefix_append_right_inj _).2 ?_
    show 1 :: dens ρ _ <+: _
    refine List.cons_prefix_cons.2 ⟨rfl, ?_⟩
    rw [dens_map, ← map_range_app (f := fun k => (srtF d (1 - 1) k : Int)) (g := fun k => (srtF d (if 1 < m then 1 else 1 - 1) k : Int))]
    exact ⟨_, congrArg (· ++ _) (map_range_congr fun k hk => rfl)⟩
  · rintro n is bs ⟨i, h1, h2, rfl, rfl⟩
    generalize hρ : ρ.on ((List.range 135).map ρ.i ++ ((i : Int) :: (List.range (m + m)).map fun k => if k < m then (srtF d (i - 1) k : Int) else (srtF d (if i < m then i else i - 1) (k - m) : Int))) [ρ.b 0] = ρ'
    have lo : ∀ k, k < 135 → ρ'.i k = ρ.i k := fun k hk => by rw [← hρ]; exact on_lo hk
    have hI0 : ρ'.i 135 = (i : Nat) := by
      rw [← hρ]
      have := on_hi (ρ := ρ) (N := 135) (tail := (i : Int) :: (List.range (m + m)).map fun k => if k < m then (srtF d (i - 1) k : Int) else (srtF d (if i < m then i else i - 1) (k - m) : Int)) (bs := [ρ.b 0]) 0
      simpa using this
    have hPk : ∀ k, k < m → ρ'.i (136 + k) = (srtF d (i - 1) k : Nat) := fun k hk => by
      rw [← hρ, show 136 + k = 135 + (k + 1) by omega, on_hi, List.getD_cons_succ, getD_map (by omega), if_pos hk]
    have hQk : ∀ k, k < m → ρ'.i (136 + m + k) = (srtF d (if i < m then i else i - 1) k : Nat) := fun k hk => by
      rw [← hρ, show 136 + m + k = 135 + (m + k + 1) by omega, on_hi, List.getD_cons_succ, getD_map (by omega), if_neg (by omega), Nat.add_sub_cancel_left]
    have hbs : bdens ρ' [.var 0] = [ρ.b 0] := by rw [← hρ]; rfl
    have hR' : AllIn ρ'.i oR 0 := AllIn.congr (fun k hk => by rw [Nat.zero_add]; exact lo k (by simp [oR] at hk; omega)) hR
    have hAll : AllIn ρ'.i (ouR m) 0 := by
      unfold ouR
      refine AllIn.app hR' ⟨?_, ?_⟩
      · show 1 ≤ ρ'.i (0 + oR.length) ∧ ρ'.i (0 + oR.length) ≤ (m : Int)
        rw [show 0 + oR.length = 135 by simp [oR], hI0]; omega
      · refine AllIn.rep (fun k hk => ?_)
        rw [show 0 + oR.length + 1 + k = 136 + k by simp [oR]]
        by_cases hk2 : k < m
        · rw [hPk k hk2]
          have := srtF_in (d := d) (m := m) (i := i - 1) (k := k) (by omega) hk2
          show (0 : Int) ≤ _ ∧ _ ≤ (m : Int) - 1
          omega
        · rw [show 136 + k = 136 + m + (k - m) by omega, hQk _ (by omega)]
          have := srtF_in (d := d) (m := m) (i := if i < m then i else i - 1) (k := k - m) (by split <;> omega) (by omega)
          show (0 : Int) ≤ _ ∧ _ ≤ (m : Int) - 1
          omega
    by_cases hin : i < m
    · left
      refine ⟨?_, ?_, ?_⟩
      · rw [← hρ] at hAll ⊢
        exact knows_env rfl hAll (fun f v h => by cases h)
      · intro E
        rw [← hρ]
        refine ⟨fun c hc => (by cases hc), fun pc _ f vs v h => (by cases h), fun f p u L h c hc _ => ?_⟩
        obtain ⟨rfl, rfl, rfl⟩ := inLp_ok (u := u) h
        rw [hρ]
        refine in_goes (by omega) hm (hI (by omega)) hc hR' hI0 h1 hin (r0 := srtF d (i - 1)) hPk (fun k hk => srtF_in (by omega) hk) (fun k hk => ?_)
        rw [hQk k hk, if_pos hin]
        have e : srtF d i = insF d i (srtF d (i - 1)) := by
          obtain ⟨i', rfl⟩ : ∃ i', i = i' + 1 := ⟨i - 1, by omega⟩
          rfl
        rw [e, insF_dcongr (e := fun k => ρ'.i (9 + 5 * k)) (j := i) (r := srtF d (i - 1)) (fun x hx => by
          have h8 := srtF_in (d := d) (m := 8) (i := i - 1) (k := x) (by omega) (by omega)
          exact (lo _ (by omega)).symm)]
      · refine ⟨(vrs 135 ++ (IE.pl .add (.var 135) (.lit 1) :: (List.range m).map fun k => IE.var (136 + m + k))).map (IE.den ρ'), [ρ.b 0], n - 1, _, _, ?_, by omega, ⟨i + 1, by omega, by omega, rfl, rfl⟩, ?_, ?_⟩
        · unfold ouT
          rw [if_neg (by omega)]
          simp only [RT.next, BE.den, IE.den, cmpI, hI0, decide_eq_true (show (i : Int) < (m : Int) by omega), cond_true]
          rw [hbs]
          rfl
        · refine List.IsPrefix.trans (pre_of_eq (dens_app (ρ := ρ') (vrs 135) (.pl .add (.var 135) (.lit 1) :: (List.range m).map fun k => .var (136 + m + k)))) ?_
          rw [dens_vrs, map_range_congr (fun k hk => lo k hk)]
          refine (List.prefix_append_right_inj _).2 ?_
          show (ρ'.i 135 + 1) :: dens ρ' _ <+: _
          rw [hI0]
          refine List.cons_prefix_cons.2 ⟨by omega, ?_⟩
          rw [dens_map, ← map_range_app (f := fun k => (srtF d (i + 1 - 1) k : Int)) (g := fun k => (srtF d (if i + 1 < m then i + 1 else i + 1 - 1) k : Int))]
          refine ⟨_, congrArg (· ++ _) (map_range_congr fun k hk => ?_)⟩
          show ρ'.i _ = _
          rw [hQk k hk, if_pos hin, Nat.add_sub_cancel]
        · exact List.prefix_rfl
    · right
      refine ⟨?_, ?_, ?_⟩
      · rw [← hρ] at hAll ⊢
        exact knows_env rfl hAll (fun f v h => by cases h)
      · intro E
        exact knowsC_none rfl rfl rfl
      · have ho : (ouT2 m).out ρ' = (ouS m).out ρ' := by
          unfold ouT2
          split
          · rfl
          · simp only [RT.out, BE.den, IE.den, cmpI, hI0, decide_eq_false (show ¬ (i : Int) < (m : Int) by omega), cond_false]
        rw [ho]
        refine ⟨_, _, rfl, ?_⟩
        rw [dens_map, hbs]
        refine has_fun (fun k hk => ?_) (fun i x h => by cases i with | zero => (simp at h; exact h) | succ i => simp at h)
        show _ = ρ'.i _
        split
        · rename_i hkm
          rw [hPk k hkm, hq k hkm, show i - 1 = m - 1 by omega]
        · rw [lo k hk]
end Go.Proofs.Ythhipnhnpjhaaaa
/- Law 14: what a filter tells: the numbers that come of it, plainly; their environment. -/
namespace Go.Proofs.Ythhipnhnpjhaaaa
open Go Go.RowKit Ev
set_option linter.unusedVariables false
set_option linter.unusedSimpArgs false
set_option maxRecDepth 100000
set_option maxHeartbeats 0

def plusT : Tree :=
(.node (.cmp .lss (.ar .add .u64 (.var 1) (.var 2)) (.var 1))
 (.node (.cmp .lss (.pl .add (.var 0) (.lit 0)) (.var 0))
 (.leaf (.tuple [(.int .u64 (.pl .add (.pl .add (.var 0) (.lit 0)) (.lit 1))), (.int .u64 (.ar .add .u64 (.var 1) (.var 2))), (.bool (.lit true))]))
 (.leaf (.tuple [(.int .u64 (.pl .add (.pl .add (.var 0) (.lit 0)) (.lit 1))), (.int .u64 (.ar .add .u64 (.var 1) (.var 2))), (.bool (.cmp .eql (.pl .add (.pl .add (.var 0) (.lit 0)) (.lit 1)) (.lit 0)))])))
 (.leaf (.tuple [(.int .u64 (.pl .add (.var 0) (.lit 0))), (.int .u64 (.ar .add .u64 (.var 1) (.var 2))), (.bool (.cmp .lss (.pl .add (.var 0) (.lit 0)) (.var 0)))])))
def lessT : Tree :=
(.node (.cmp .eql (.var 0) (.lit 0))
 (.leaf (.bool (.cmp .lss (.var 1) (.lit 0))))
 (.leaf (.bool (.cmp .lss (.var 0) (.lit 0)))))
theorem plus_any (a b n : Int) (ha : 0 ≤ a ∧ a ≤ 8) (hb : 0 ≤ b ∧ b ≤ 18446744073709551615) (hn : 0 ≤ n ∧ n ≤ 18446744073709551615) (w : World) :
    Calls Try.prog 95 #[.int .u64 a, .int .u64 b, .int .u64 0, .int .u64 n] w fun e w' => e = .returned (.tuple #[.int .u64 (a + (b + n) / 18446744073709551616), .int .u64 ((b + n) % 18446744073709551616), .bool false]) ∧ Below w.heap.size w w' := by
  have h := tree_sound (P := Try.prog) mixed (ρ := envOf [a, b, n]) (n := 400) (f := 95) (args := [.int .u64 (.var 0), .int .u64 (.var 1), .int .u64 (.lit 0), .int .u64 (.var 2)]) plusT (X := { pc := [], rg := [(0, 8), u64S, u64S] })
    (knows_env rfl ⟨ha, hb, hn, trivial⟩ (fun f v h => by cases h)) (knowsC_none rfl rfl rfl) (Tree.ok_of_check (by kernel_rfl)) (Tree.whole_live (by kernel_rfl)) w
  have e : plusT.val (envOf [a, b, n]) = .tuple #[.int .u64 (a + (b + n) / 18446744073709551616), .int .u64 ((b + n) % 18446744073709551616), .bool false] := by
    have w1 : IntKind.u64.wrap (b + n) = (b + n) % 18446744073709551616 := by rw [IntKind.wrap_u64]
    simp only [plusT, Tree.val, BE.den, cmpI, SV.den, SV.denL, IE.den, arI, plI, List.getD_cons_zero, List.getD_cons_succ, w1]
    by_cases hc : (b + n) % 18446744073709551616 < b
    · rw [decide_eq_true hc, cond_true, decide_eq_false (show ¬ a + 0 < a by omega), cond_false, beq_false_of_ne (show a + 0 + 1 ≠ 0 by omega), show a + 0 + 1 = a + (b + n) / 18446744073709551616 by omega]
    · rw [decide_eq_false hc, cond_false, decide_eq_false (show ¬ a + 0 < a by omega), show a + 0 = a + (b + n) / 18446744073709551616 by omega]
  rw [e] at h
  exact h
theorem less_any (a b : Int) (ha : 0 ≤ a ∧ a ≤ 8) (hb : 0 ≤ b ∧ b ≤ 18446744073709551615) (w : World) :
    Calls Try.prog 96 #[.int .u64 a, .int .u64 b, .int .u64 0, .int .u64 0] w fun e w' => e = .returned (.bool false) ∧ Below w.heap.size w w' := by
  have h := tree_sound (P := Try.prog) mixed (ρ := envOf [a, b]) (n := 400) (f := 96) (args := [.int .u64 (.var 0), .int .u64 (.var 1), .int .u64 (.lit 0), .int .u64 (.lit 0)]) lessT (X := { pc := [], rg := [(0, 8), u64S] })
    (knows_env rfl ⟨ha, hb, trivial⟩ (fun f v h => by cases h)) (knowsC_none rfl rfl rfl) (Tree.ok_of_check (by kernel_rfl)) (Tree.whole_live (by kernel_rfl)) w
  have e : lessT.val (envOf [a, b]) = .bool false := by
    simp only [lessT, Tree.val, BE.den, cmpI, SV.den, IE.den, List.getD_cons_zero, List.getD_cons_succ, decide_eq_false (show ¬ b < 0 by omega), decide_eq_false (show ¬ a < 0 by omega), Bool.cond_self]
  rw [e] at h
  exact h

/-! the numbers -/
def tP (c : Nat → Int) (m k : Nat) : Nat := if k < m then srtF (fun x => c (5 * x + 1)) (m - 1) k else 0
def tF (c : Nat → Int) (m k x : Nat) : Int := c (5 * tP c m k + x)
def tHr (c : Nat → Int) (m : Nat) (tot : Int) (k : Nat) : Int := sat (tF c m k 0 - sat (tot - tF c m k 4))
def tDr (c : Nat → Int) (m : Nat) (tot : Int) (k : Nat) : Int := sat (tHr c m tot 0 - tHr c m tot k)
def tQr (c : Nat → Int) (m : Nat) (tot : Int) (k : Nat) : Int := sat (tDr c m tot k * tDr c m tot k / 4294967296)
def tSr (c : Nat → Int) (m : Nat) (tot : Int) : Nat → Int
  | 0 => 0
  | k + 1 => tSr c m tot k + tQr c m tot (k + 1)
def tI (c : Nat → Int) (m : Nat) (u : Nat → Int) (own at_ tot : Int) (n : Nat) : Int :=
  if n < 8 then tP c m n else if n < 48 then c (n - 8) else if n < 52 then u (n - 48) else if n < 53 then at_ else if n < 93 then tF c m ((n - 53) / 5) ((n - 53) % 5)
  else if n < 94 then own else if n < 95 then tot else if n < 103 then tHr c m tot (n - 95) else if n < 111 then tDr c m tot (n - 103) else if n < 119 then tQr c m tot (n - 111)
  else if n < 127 then tSr c m tot (n - 119) / 18446744073709551616 else tSr c m tot (n - 127) % 18446744073709551616
noncomputable def tE (c : Nat → Int) (m : Nat) (had : Bool) (u : Nat → Int) (own at_ tot : Int) : Env := { i := tI c m u own at_ tot, b := fun n => if n = 0 then had else false, a := apN }
theorem tP_in {c : Nat → Int} {m k : Nat} (hm : m ≤ 8) : tP c m k < 8 := by
  unfold tP
  split
  · have := srtF_in (d := fun x => c (5 * x + 1)) (m := m) (i := m - 1) (k := k) (by omega) (by omega); omega
  · omega
theorem tF_in {c : Nat → Int} {m k x : Nat} (hm : m ≤ 8) (hx : x < 5) (hc : ∀ k, k < 40 → InI (c k)) : InI (tF c m k x) := by
  have := tP_in (c := c) (m := m) (k := k) hm
  exact hc _ (by omega)
theorem sq_nonneg (x : Int) : 0 ≤ x * x := by
  rcases Int.le_total 0 x with h | h
  · exact Int.mul_nonneg h h
  · exact Int.mul_nonneg_of_nonpos_of_nonpos h h
theorem tQr_in {c : Nat → Int} {m : Nat} {tot : Int} {k : Nat} : 0 ≤ tQr c m tot k ∧ tQr c m tot k ≤ 9223372036854775807 := by
  unfold tQr
  exact sat_in0 (Int.ediv_nonneg (sq_nonneg _) (by decide))
theorem tSr_in {c : Nat → Int} {m : Nat} {tot : Int} : ∀ k : Nat, 0 ≤ tSr c m tot k ∧ tSr c m tot k ≤ k * 9223372036854775807
  | 0 => ⟨Int.le_refl _, by simp [tSr]⟩
  | k + 1 => by
    have h1 := tSr_in (c := c) (m := m) (tot := tot) k
    have h2 := tQr_in (c := c) (m := m) (tot := tot) (k := k + 1)
    simp only [tSr]
    constructor
    · omega
    · push_cast; omega
section
variable {c : Nat → Int} {m : Nat} {u : Nat → Int} {own at_ tot : Int}
theorem tI_p {k : Nat} (h : k < 8) : tI c m u own at_ tot k = tP c m k := by unfold tI; rw [if_pos h]
theorem tI_c {k : Nat} (h : k < 40) : tI c m u own at_ tot (8 + k) = c k := by unfold tI; rw [if_neg (by omega), if_pos (by omega), Nat.add_sub_cancel_left]
theorem tI_u {k : Nat} (h : k < 4) : tI c m u own at_ tot (48 + k) = u k := by unfold tI; rw [if_neg (by omega), if_neg (by omega), if_pos (by omega), Nat.add_sub_cancel_left]
theorem tI_at : tI c m u own at_ tot 52 = at_ := by unfold tI; rw [if_neg (by omega), if_neg (by omega), if_neg (by omega), if_pos (by omega)]
theorem tI_f {k x : Nat} (h : k < 8) (hx : x < 5) : tI c m u own at_ tot (53 + 5 * k + x) = tF c m k x := by
  unfold tI
  rw [if_neg (by omega), if_neg (by omega), if_neg (by omega), if_neg (by omega), if_pos (by omega), show (53 + 5 * k + x - 53) / 5 = k by omega, show (53 + 5 * k + x - 53) % 5 = x by omega]
theorem tI_own : tI c m u own at_ tot 93 = own := by unfold tI; rw [if_neg (by omega), if_neg (by omega), if_neg (by omega), if_neg (by omega), if_neg (by omega), if_pos (by omega)]
theorem tI_tot : tI c m u own at_ tot 94 = tot := by unfold tI; rw [if_neg (by omega), if_neg (by omega), if_neg (by omega), if_neg (by omega), if_neg (by omega), if_neg (by omega), if_pos (by omega)]
theorem tI_h {k : Nat} (h : k < 8) : tI c m u own at_ tot (95 + k) = tHr c m tot k := by
  unfold tI; rw [if_neg (by omega), if_neg (by omega), if_neg (by omega), if_neg (by omega), if_neg (by omega), if_neg (by omega), if_neg (by omega), if_pos (by omega), Nat.add_sub_cancel_left]
theorem tI_d {k : Nat} (h : k < 8) : tI c m u own at_ tot (103 + k) = tDr c m tot k := by
  unfold tI; rw [if_neg (by omega), if_neg (by omega), if_neg (by omega), if_neg (by omega), if_neg (by omega), if_neg (by omega), if_neg (by omega), if_neg (by omega), if_pos (by omega), Nat.add_sub_cancel_left]
theorem tI_q {k : Nat} (h : k < 8) : tI c m u own at_ tot (111 + k) = tQr c m tot k := by
  unfold tI; rw [if_neg (by omega), if_neg (by omega), if_neg (by omega), if_neg (by omega), if_neg (by omega), if_neg (by omega), if_neg (by omega), if_neg (by omega), if_neg (by omega), if_pos (by omega), Nat.add_sub_cancel_left]
theorem tI_hi {k : Nat} (h : k < 8) : tI c m u own at_ tot (119 + k) = tSr c m tot k / 18446744073709551616 := by
  unfold tI; rw [if_neg (by omega), if_neg (by omega), if_neg (by omega), if_neg (by omega), if_neg (by omega), if_neg (by omega), if_neg (by omega), if_neg (by omega), if_neg (by omega), if_neg (by omega), if_pos (by omega), Nat.add_sub_cancel_left]
theorem tI_lo {k : Nat} : tI c m u own at_ tot (127 + k) = tSr c m tot k % 18446744073709551616 := by
  unfold tI; rw [if_neg (by omega), if_neg (by omega), if_neg (by omega), if_neg (by omega), if_neg (by omega), if_neg (by omega), if_neg (by omega), if_neg (by omega), if_neg (by omega), if_neg (by omega), if_neg (by omega), Nat.add_sub_cancel_left]
theorem tI_in (hm : m ≤ 8) (hc : ∀ k, k < 40 → InI (c k)) (hu : ∀ k, k < 4 → InI (u k)) (ho : InI own) (ha : InI at_) (ht : InI tot) : AllIn (tI c m u own at_ tot) oR 0 := by
  unfold oR
  refine AllIn.app (AllIn.rep fun k hk => ?_) (AllIn.app (show AllIn _ _ 8 from AllIn.rep fun k hk => ?_) (AllIn.app (show AllIn _ _ 95 from AllIn.rep fun k hk => ?_) (AllIn.app (show AllIn _ _ 111 from AllIn.rep fun k hk => ?_) (AllIn.app (show AllIn _ _ 119 from AllIn.rep fun k hk => ?_) (show AllIn _ _ 127 from AllIn.rep fun k hk => ?_)))))
  · rw [Nat.zero_add, tI_p hk]
    have := tP_in (c := c) (m := m) (k := k) hm
    show (0 : Int) ≤ _ ∧ _ ≤ (7 : Int)
    omega
  · by_cases h1 : k < 40
    · rw [tI_c h1]; exact hc k h1
    · by_cases h2 : k < 44
      · rw [show 8 + k = 48 + (k - 40) by omega, tI_u (by omega)]; exact hu _ (by omega)
      · by_cases h3 : k = 44
        · subst h3; rw [tI_at]; exact ha
        · by_cases h4 : k < 85
          · rw [show 8 + k = 53 + 5 * ((k - 45) / 5) + (k - 45) % 5 by omega, tI_f (by omega) (by omega)]
            exact tF_in hm (by omega) hc
          · by_cases h5 : k = 85
            · subst h5; rw [tI_own]; exact ho
            · obtain rfl : k = 86 := by omega
              rw [tI_tot]; exact ht
  · by_cases h : k < 8
    · rw [tI_h h]; exact sat_in _
    · rw [show 95 + k = 103 + (k - 8) by omega, tI_d (by omega)]; exact sat_in _
  · rw [tI_q hk]; exact tQr_in
  · rw [tI_hi hk]
    have := tSr_in (c := c) (m := m) (tot := tot) k
    show (0 : Int) ≤ _ ∧ _ ≤ (8 : Int)
    omega
  · rw [tI_lo]
    show (0 : Int) ≤ _ ∧ _ ≤ (18446744073709551615 : Int)
    omega
end

/-! what the evaluator is told -/
def hiE (k : Nat) : IE := if k = 1 then .lit 0 else .var (119 + k)
def loE (k : Nat) : IE := if k = 1 then .var 112 else .var (127 + k)
def tSelN (k x : Nat) : IE × IE := (.wr .i64 (selSum (.var k) 0 ((List.range 8).map fun y => .var (8 + 5 * y + x))), .var (53 + 5 * k + x))
def tSel : List (IE × IE) := ((List.range 8).flatMap fun k => (List.range 5).map fun x => tSelN k x) ++ [(.pl .add (.lit 0) (.var 112), .var 112)]
def tNm : List (IE × IE) := ((List.range 8).map fun k => (.ap 2 (.var (53 + 5 * k)) (.ap 2 (.var 94) (.var (57 + 5 * k)) (.lit 0)) (.lit 0), .var (95 + k))) ++ ((List.range' 1 7).flatMap fun k => [(.ap 2 (.var 95) (.var (95 + k)) (.lit 0), .var (103 + k)), (.ap 4 (.var (103 + k)) (.var (103 + k)) (.lit 0), .var (111 + k))])
def tCr1 (k : Nat) : FuncId × List SV × SV := (95, [.int .u64 (hiE (k - 1)), .int .u64 (loE (k - 1)), .int .u64 (.lit 0), .int .u64 (.var (111 + k))], .tuple [.int .u64 (.var (119 + k)), .int .u64 (.var (127 + k)), .bool (.lit false)])
def tCr2 (k : Nat) : FuncId × List SV × SV := (96, [.int .u64 (hiE k), .int .u64 (loE k), .int .u64 (.lit 0), .int .u64 (.lit 0)], .bool (.lit false))
def tCr : List (FuncId × List SV × SV) := ((List.range' 2 6).map tCr1) ++ ((List.range' 1 7).map tCr2)
def ouLp (m : Nat) (f : FuncId) (p : List Nat) (_ : Nat) : Option LoopSum := if Nat.beq f 104 && decide (p = ouP) then some (ouL m) else none
def tA (m : Nat) : List SV := [stdS, .agg (oFc m), .int .i64 (.var 93), .int .i64 (.var 52), .int .i64 (.var 94)]
noncomputable def tX (m : Nat) : Ctx := { pc := [], cr := tCr, rg := oR, ar := arN, ct := conCt oR arN (consN.map (conNm tNm)), nm := tSel, lp := ouLp m, sy := true }
def dispE (m : Nat) : Nat → IE
  | 0 => .lit 0
  | i + 1 => .ap 1 (dispE m i) (if i < m then .ap 3 (.mn (.lit 68719476736) (.ap 1 (.var (55 + 5 * i)) (.ap 4 (.lit 64424) (.mx (.ap 2 (.var 52) (.var (56 + 5 * i)) (.lit 0)) (.lit 0)) (.lit 0)) (.lit 0))) (.lit (-1 - (i : Int))) (.lit 0) else .lit ((68719476736 / 2 ^ (i + 1) : Nat) : Int)) (.lit 0)
def hiD (k : Nat) : IE := if k = 1 then .lit 0 else .pl .sub (.var (119 + k)) (.lit 0)
def loD (k : Nat) : IE := if k = 1 then .pl .sub (.var 112) (.lit 0) else .pl .sub (.var (127 + k)) (.lit 0)
def jitE (m : Nat) : IE :=
  if m = 1 then .mx (.lit 0) (.ap 3 (.lit 4294967296) (.var 93) (.lit 0))
  else .mx (.ap 9 (.pl .mul (.lit 1) (.mn (.ap 5 (hiD (m - 1)) (loD (m - 1)) (.lit ((m - 1 : Nat) : Int))) (.lit 9223372036854775807))) (.lit 0) (.lit 0)) (.ap 3 (.lit 4294967296) (.var 93) (.lit 0))
def tRes (m : Nat) : SV := if m = 0 then .tuple [.agg [.int .i64 (.lit 0), .int .i64 (.lit 0), .int .i64 (.lit 0), .int .i64 (.lit 0), .int .i64 (.lit 0)], .bool (.lit false)]
  else .tuple [.agg [.int .i64 (.var 95), .int .i64 (.var 54), .int .i64 (dispE m 8), .int .i64 (jitE m), .int .i64 (.var 56)], .bool (.lit true)]
section
variable {c : Nat → Int} {m : Nat} {had : Bool} {u : Nat → Int} {own at_ tot : Int}
theorem tSel_ok (hm : m ≤ 8) (hc : ∀ k, k < 40 → InI (c k)) : ∀ p ∈ tSel, p.1.den (tE c m had u own at_ tot) = p.2.den (tE c m had u own at_ tot) := by
  intro p hp
  rcases List.mem_append.1 hp with hp | hp
  · obtain ⟨k, hk, hp⟩ := List.mem_flatMap.1 hp
    obtain ⟨x, hx, rfl⟩ := List.mem_map.1 hp
    have hk := List.mem_range.1 hk
    have hx := List.mem_range.1 hx
    have hP := tP_in (c := c) (m := m) (k := k) hm
    show IntKind.i64.wrap ((selSum (.var k) 0 ((List.range 8).map fun y => .var (8 + 5 * y + x))).den (tE c m had u own at_ tot)) = tI c m u own at_ tot (53 + 5 * k + x)
    rw [tI_f hk hx, selSum_den (ρ := tE c m had u own at_ tot) (e := .var k) (i := tP c m k) (show (IE.var k).den (tE c m had u own at_ tot) = _ from tI_p hk), if_pos (Nat.zero_le _), Nat.sub_zero, List.getElem?_map, List.getElem?_range hP]
    show IntKind.i64.wrap (tI c m u own at_ tot (8 + 5 * tP c m k + x)) = _
    rw [show 8 + 5 * tP c m k + x = 8 + (5 * tP c m k + x) by omega, tI_c (by omega)]
    exact Ev.wrap_within (k := .i64) (hc _ (by omega))
  · obtain rfl := List.mem_singleton.1 hp
    show 0 + _ = _
    exact Int.zero_add _
theorem tNm_ok : ∀ p ∈ tNm, p.1.den (tE c m had u own at_ tot) = p.2.den (tE c m had u own at_ tot) := by
  intro p hp
  rcases List.mem_append.1 hp with hp | hp
  · obtain ⟨k, hk, rfl⟩ := List.mem_map.1 hp
    have hk := List.mem_range.1 hk
    show sat (tI c m u own at_ tot (53 + 5 * k) - sat (tI c m u own at_ tot 94 - tI c m u own at_ tot (57 + 5 * k))) = tI c m u own at_ tot (95 + k)
    rw [tI_h hk, tI_tot, show 57 + 5 * k = 53 + 5 * k + 4 by omega, tI_f hk (by omega)]
    have := tI_f (c := c) (m := m) (u := u) (own := own) (at_ := at_) (tot := tot) hk (show 0 < 5 by omega)
    rw [Nat.add_zero] at this
    rw [this]
    rfl
  · obtain ⟨k, hk, hp⟩ := List.mem_flatMap.1 hp
    have hk := List.mem_range'_1.1 hk
    simp only [List.mem_cons, List.not_mem_nil, or_false] at hp
    rcases hp with rfl | rfl
    · show sat (tI c m u own at_ tot 95 - tI c m u own at_ tot (95 + k)) = tI c m u own at_ tot (103 + k)
      rw [tI_d (by omega), tI_h (by omega)]
      have := tI_h (c := c) (m := m) (u := u) (own := own) (at_ := at_) (tot := tot) (show 0 < 8 by omega)
      rw [Nat.add_zero] at this
      rw [this]
      rfl
    · show sat (tI c m u own at_ tot (103 + k) * tI c m u own at_ tot (103 + k) / 4294967296) = tI c m u own at_ tot (111 + k)
      rw [tI_d (by omega), tI_q (by omega)]
      rfl
theorem hiE_den {k : Nat} (h1 : 1 ≤ k) (h : k < 8) : (hiE k).den (tE c m had u own at_ tot) = tSr c m tot k / 18446744073709551616 := by
  unfold hiE
  split
  · rename_i h
    subst h
    have := tQr_in (c := c) (m := m) (tot := tot) (k := 1)
    show (0 : Int) = (0 + tQr c m tot 1) / 18446744073709551616
    omega
  · exact tI_hi h
theorem loE_den {k : Nat} (h1 : 1 ≤ k) : (loE k).den (tE c m had u own at_ tot) = tSr c m tot k % 18446744073709551616 := by
  unfold loE
  split
  · rename_i h
    subst h
    have := tQr_in (c := c) (m := m) (tot := tot) (k := 1)
    show tI c m u own at_ tot (111 + 1) = _
    rw [tI_q (by omega)]
    show _ = (0 + tQr c m tot 1) % 18446744073709551616
    omega
  · exact tI_lo
theorem tCr_ok : ∀ q ∈ tCr, Known Try.prog (tE c m had u own at_ tot) q := by
  intro q hq
  rcases List.mem_append.1 hq with hq | hq
  · obtain ⟨k, hk, rfl⟩ := List.mem_map.1 hq
    have hk := List.mem_range'_1.1 hk
    obtain ⟨j, rfl⟩ : ∃ j, k = j + 1 := ⟨k - 1, by omega⟩
    intro φ w _
    have h1 := tSr_in (c := c) (m := m) (tot := tot) j
    have h2 := tQr_in (c := c) (m := m) (tot := tot) (k := j + 1)
    have h := plus_any (tSr c m tot j / 18446744073709551616) (tSr c m tot j % 18446744073709551616) (tQr c m tot (j + 1)) (by omega) (by omega) (by omega) w
    have e1 : (SV.denL (tE c m had u own at_ tot) φ (tCr1 (j + 1)).2.1).toArray = #[.int .u64 (tSr c m tot j / 18446744073709551616), .int .u64 (tSr c m tot j % 18446744073709551616), .int .u64 0, .int .u64 (tQr c m tot (j + 1))] := by
      simp only [tCr1, SV.denL, SV.den, Nat.add_sub_cancel, hiE_den (c := c) (m := m) (had := had) (u := u) (own := own) (at_ := at_) (tot := tot) (show 1 ≤ j by omega) (show j < 8 by omega), loE_den (c := c) (m := m) (had := had) (u := u) (own := own) (at_ := at_) (tot := tot) (show 1 ≤ j by omega), IE.den]
      rw [show (tE c m had u own at_ tot).i (111 + (j + 1)) = _ from tI_q (by omega)]
    have e2 : (tCr1 (j + 1)).2.2.den (tE c m had u own at_ tot) φ = .tuple #[.int .u64 (tSr c m tot j / 18446744073709551616 + (tSr c m tot j % 18446744073709551616 + tQr c m tot (j + 1)) / 18446744073709551616), .int .u64 ((tSr c m tot j % 18446744073709551616 + tQr c m tot (j + 1)) % 18446744073709551616), .bool false] := by
      simp only [tCr1, SV.den, SV.denL, IE.den, BE.den]
      rw [show (tE c m had u own at_ tot).i (119 + (j + 1)) = _ from tI_hi (by omega), show (tE c m had u own at_ tot).i (127 + (j + 1)) = _ from tI_lo]
      have q1 : tSr c m tot (j + 1) / 18446744073709551616 = tSr c m tot j / 18446744073709551616 + (tSr c m tot j % 18446744073709551616 + tQr c m tot (j + 1)) / 18446744073709551616 := by
        show (tSr c m tot j + tQr c m tot (j + 1)) / 18446744073709551616 = _
        omega
      have q2 : tSr c m tot (j + 1) % 18446744073709551616 = (tSr c m tot j % 18446744073709551616 + tQr c m tot (j + 1)) % 18446744073709551616 := by
        show (tSr c m tot j + tQr c m tot (j + 1)) % 18446744073709551616 = _
        omega
      rw [q1, q2]
    rw [e1, e2]
    exact h
  · obtain ⟨k, hk, rfl⟩ := List.mem_map.1 hq
    have hk := List.mem_range'_1.1 hk
    intro φ w _
    have h1 := tSr_in (c := c) (m := m) (tot := tot) k
    have h := less_any (tSr c m tot k / 18446744073709551616) (tSr c m tot k % 18446744073709551616) (by omega) (by omega) w
    have e1 : (SV.denL (tE c m had u own at_ tot) φ (tCr2 k).2.1).toArray = #[.int .u64 (tSr c m tot k / 18446744073709551616), .int .u64 (tSr c m tot k % 18446744073709551616), .int .u64 0, .int .u64 0] := by
      simp only [tCr2, SV.denL, SV.den, hiE_den (c := c) (m := m) (had := had) (u := u) (own := own) (at_ := at_) (tot := tot) (show 1 ≤ k by omega) (show k < 8 by omega), loE_den (c := c) (m := m) (had := had) (u := u) (own := own) (at_ := at_) (tot := tot) (show 1 ≤ k by omega), IE.den]
    rw [e1]
    exact h
theorem ouLp_ok {f : FuncId} {p : List Nat} {v : Nat} {L : LoopSum} (h : ouLp m f p v = some L) : f = 104 ∧ p = ouP ∧ L = ouL m := by
  unfold ouLp at h
  split at h
  · rename_i hc
    simp only [Bool.and_eq_true, Nat.beq_eq, decide_eq_true_eq] at hc
    cases h
    exact ⟨hc.1, hc.2, rfl⟩
  · cases h
/-- the filter's cells -/
def filV (c : Nat → Int) (m : Int) (had : Bool) (u : Nat → Int) : List Value := (List.range 40).map (fun k => .int .i64 (c k)) ++ [.int .i64 m, .bool had, .int .i64 (u 0), .int .i64 (u 1), .int .i64 (u 2), .int .i64 (u 3)]
noncomputable def stdV : Value := stdS.den (envOf []) id
noncomputable def tellV (c : Nat → Int) (m : Nat) (had : Bool) (u : Nat → Int) (own at_ tot : Int) : Value := (tRes m).den (tE c m had u own at_ tot) id
theorem tell_of (hm : m ≤ 8) (hT : (Tree.leaf (tRes m)).check Try.prog (tX m) 3000 18 (tA m) = true)
    (hB : 1 ≤ m → lpB Try.prog (ouX m) 1000 104 ouP 1 (ouL m) (ouH m) (ouT m) (ouE m) [.var 0] = true) (hB2 : 1 ≤ m → lpB Try.prog (ouX2 m) 1000 104 ouP 1 (ouL m) (ouH m) (ouT2 m) (ouE m) [.var 0] = true)
    (hI : 2 ≤ m → lpB Try.prog (inX m) 1000 104 inP 3 (inL m) (inH m) (inT m) (inE m) [.var 0] = true) (h0 : m = 0 → (Tree.leaf (tRes 0)).check Try.prog { tX 0 with lp := fun _ _ _ => none } 3000 18 (tA 0) = true)
    (hc : ∀ k, k < 40 → InI (c k)) (hu : ∀ k, k < 4 → InI (u k)) (ho : InI own) (ha : InI at_) (ht : InI tot) (w : World) :
    Calls Try.prog 18 #[stdV, .agg (filV c m had u).toArray, .int .i64 own, .int .i64 at_, .int .i64 tot] w fun e w' => e = .returned (tellV c m had u own at_ tot) ∧ Below w.heap.size w w' := by
  have hin := tI_in (u := u) (own := own) (at_ := at_) (tot := tot) hm hc hu ho ha ht
  have hargs : (SV.denL (tE c m had u own at_ tot) id (tA m)).toArray = #[stdV, .agg (filV c m had u).toArray, .int .i64 own, .int .i64 at_, .int .i64 tot] := by
    have e : SV.denL (tE c m had u own at_ tot) id (oFc m) = filV c m had u := by
      unfold oFc filV
      rw [denL_map, List.map_append, List.map_map]
      refine congr (congrArg HAppend.hAppend (List.map_congr_left fun k hk => ?_)) ?_
      · show Value.int .i64 (tI c m u own at_ tot (8 + k)) = _
        rw [tI_c (List.mem_range.1 hk)]
      · show [Value.int .i64 (m : Int), .bool had, .int .i64 (tI c m u own at_ tot (48 + 0)), .int .i64 (tI c m u own at_ tot (48 + 1)), .int .i64 (tI c m u own at_ tot (48 + 2)), .int .i64 (tI c m u own at_ tot (48 + 3))] = _
        simp only [tI_u (show 0 < 4 by omega), tI_u (show 1 < 4 by omega), tI_u (show 2 < 4 by omega), tI_u (show 3 < 4 by omega)]
    show #[stdS.den _ id, Value.agg (SV.denL (tE c m had u own at_ tot) id (oFc m)).toArray, .int .i64 (tI c m u own at_ tot 93), .int .i64 (tI c m u own at_ tot 52), .int .i64 (tI c m u own at_ tot 94)] = _
    rw [e, tI_own, tI_at, tI_tot]
    try rfl
  by_cases hz : m = 0
  · subst hz
    have h := tree_soundX (P := Try.prog) mixed (ρ := tE c 0 had u own at_ tot) (.leaf (tRes 0)) (X := { tX 0 with lp := fun _ _ _ => none }) (knows_env rfl hin arN_ok (hnm := tSel_ok hm hc))
      ⟨fun q hq φ w hx => tCr_ok q hq φ w hx, fun pc hpc f vs v h _ φ w _ => conCt_ok hin.get0 arN_ok (consNm_ok tNm_ok (consN_ok (numA_N rfl))) hpc h φ w, fun f p v L h => (by cases h)⟩ (Tree.ok_of_check (h0 rfl)) rfl w (ExtIn.none fun _ => rfl)
    rw [hargs] at h
    exact h
  have h := tree_soundX (P := Try.prog) mixed (ρ := tE c m had u own at_ tot) (.leaf (tRes m)) (X := tX m) (knows_env rfl hin arN_ok (hnm := tSel_ok hm hc))
    ⟨fun q hq φ w hx => tCr_ok q hq φ w hx, fun pc hpc f vs v h _ φ w _ => conCt_ok hin.get0 arN_ok (consNm_ok tNm_ok (consN_ok (numA_N rfl))) hpc h φ w, fun f p v L h c' hc' _ => (by
      obtain ⟨rfl, rfl, rfl⟩ := ouLp_ok (m := m) (v := v) h
      refine ou_goes (by omega) hm (hB (by omega)) (hB2 (by omega)) hI hc' hin (fun k hk => ?_)
      show tI c m u own at_ tot k = _
      rw [tI_p (k := k) (by omega)]
      unfold tP
      rw [if_pos hk]
      refine congrArg Nat.cast ?_
      refine congrFun (srtF_dcongr (m := 8) (by omega) (fun x hx => ?_)) k
      show _ = tI c m u own at_ tot (9 + 5 * x)
      rw [show 9 + 5 * x = 8 + (5 * x + 1) by omega, tI_c (by omega)])⟩ (Tree.ok_of_check hT) rfl w (ExtIn.none fun _ => rfl)
  rw [hargs] at h
  exact h
end
end Go.Proofs.Ythhipnhnpjhaaaa
/- Law 14: Put, as a contract. -/
namespace Go.Proofs.Ythhipnhnpjhaaaa
open Go Go.RowKit Ev
set_option linter.unusedVariables false
set_option linter.unusedSimpArgs false
set_option maxRecDepth 100000
set_option maxHeartbeats 0

def filS (e : Nat → IE) (em : IE) (b : BE) (eu : Nat → IE) : List SV := (List.range 40).map (fun k => .int .i64 (e k)) ++ [.int .i64 em, .bool b, .int .i64 (eu 0), .int .i64 (eu 1), .int .i64 (eu 2), .int .i64 (eu 3)]
def samS (s : Nat → IE) : List SV := (List.range 5).map fun k => .int .i64 (s k)
theorem filS_den {ρ : Env} {φ : Nat → Nat} {e : Nat → IE} {em : IE} {b : BE} {eu : Nat → IE} : SV.denL ρ φ (filS e em b eu) = filV (fun k => (e k).den ρ) (em.den ρ) (b.den ρ) (fun k => (eu k).den ρ) := by
  unfold filS filV
  rw [denL_map, List.map_append, List.map_map]
  rfl
theorem samS_den {ρ : Env} {φ : Nat → Nat} {s : Nat → IE} : SV.denL ρ φ (samS s) = (List.range 5).map fun k => .int .i64 ((s k).den ρ) := by
  unfold samS
  rw [denL_map, List.map_map]
  rfl
theorem filV_congr {c d : Nat → Int} {m n : Int} {had : Bool} {u v : Nat → Int} (h : ∀ k, k < 40 → c k = d k) (hm : m = n) (hu : ∀ k, k < 4 → u k = v k) : filV c m had u = filV d n had v := by
  unfold filV
  rw [map_range_congr (fun k hk => congrArg (Value.int .i64) (h k hk)), hm, hu 0 (by omega), hu 1 (by omega), hu 2 (by omega), hu 3 (by omega)]
def putA (m : Nat) : List SV := [.agg (filS (fun k => if k < 5 * m then .var k else .lit 0) (.lit m) (.var 0) (fun k => .var (40 + k))), .agg (samS fun k => .var (44 + k))]
def putR (m : Nat) : SV := .agg (filS (fun k => if k < 5 then .var (44 + k) else if k - 5 < 5 * m then .var (k - 5) else .lit 0) (.lit ((min (m + 1) 8 : Nat) : Int)) (.var 0) (fun k => .var (40 + k)))
theorem put_k : ∀ m, m ≤ 8 → (Tree.leaf (putR m)).check Try.prog { pc := [] } 1000 15 (putA m) = true
  | 0, _ => by kernel_rfl
  | 1, _ => by kernel_rfl
  | 2, _ => by kernel_rfl
  | 3, _ => by kernel_rfl
  | 4, _ => by kernel_rfl
  | 5, _ => by kernel_rfl
  | 6, _ => by kernel_rfl
  | 7, _ => by kernel_rfl
  | 8, _ => by kernel_rfl
  | n + 9, h => absurd h (by omega)
theorem two_lists {a b c d : List Value} (h : a = c) (k : b = d) : #[Value.agg a.toArray, Value.agg b.toArray] = #[Value.agg c.toArray, Value.agg d.toArray] := by rw [h, k]
theorem put_any {c : Nat → Int} {m : Nat} {had : Bool} {u s : Nat → Int} (hm : m ≤ 8) (h0 : ∀ k, 5 * m ≤ k → k < 40 → c k = 0) (w : World) :
    Calls Try.prog 15 #[.agg (filV c m had u).toArray, .agg ((List.range 5).map fun k => .int .i64 (s k)).toArray] w fun e w' => e = .returned (.agg (filV (fun k => if k < 5 then s k else c (k - 5)) ((min (m + 1) 8 : Nat) : Int) had u).toArray) ∧ Below w.heap.size w w' := by
  have h := tree_soundX (P := Try.prog) mixed (ρ := { i := fun n => if n < 40 then c n else if n < 44 then u (n - 40) else s (n - 44), b := fun n => had }) (.leaf (putR m)) (X := { pc := [] }) (knows_env rfl trivial (fun f v h => by cases h)) (knowsC_none rfl rfl rfl) (Tree.ok_of_check (put_k m hm)) rfl w (ExtIn.none fun _ => rfl)
  have e1 : (SV.denL { i := fun n => if n < 40 then c n else if n < 44 then u (n - 40) else s (n - 44), b := fun n => had } id (putA m)).toArray = #[.agg (filV c m had u).toArray, .agg ((List.range 5).map fun k => .int .i64 (s k)).toArray] := by
    simp only [putA, SV.denL, SV.den, filS_den, samS_den]
    refine two_lists (filV_congr (fun k hk => ?_) rfl (fun k hk => ?_)) (map_range_congr (fun k hk => ?_))
    rotate_left 2
    · show Value.int .i64 (if 44 + k < 40 then _ else if 44 + k < 44 then _ else s (44 + k - 44)) = _
      rw [if_neg (by omega), if_neg (by omega), Nat.add_sub_cancel_left]
    · show (IE.den _ (if k < 5 * m then .var k else .lit 0)) = _
      split
      · show (if k < 40 then c k else _) = _
        rw [if_pos hk]
      · exact (h0 k (by omega) hk).symm
    · show (if 40 + k < 40 then _ else if 40 + k < 44 then u (40 + k - 40) else _) = _
      rw [if_neg (by omega), if_pos (by omega), Nat.add_sub_cancel_left]
  have e2 : (Tree.leaf (putR m)).val { i := fun n => if n < 40 then c n else if n < 44 then u (n - 40) else s (n - 44), b := fun n => had } = .agg (filV (fun k => if k < 5 then s k else c (k - 5)) ((min (m + 1) 8 : Nat) : Int) had u).toArray := by
    simp only [Tree.val, putR, SV.den, filS_den]
    refine congrArg (fun (a : List Value) => Value.agg a.toArray) (filV_congr (fun k hk => ?_) rfl (fun k hk => ?_))
    · show (IE.den _ (if k < 5 then .var (44 + k) else if k - 5 < 5 * m then .var (k - 5) else .lit 0)) = if k < 5 then s k else c (k - 5)
      split
      · show (if 44 + k < 40 then _ else if 44 + k < 44 then _ else s (44 + k - 44)) = _
        rw [if_neg (by omega), if_neg (by omega), Nat.add_sub_cancel_left]
      · split
        · show (if k - 5 < 40 then c (k - 5) else _) = _
          rw [if_pos (by omega)]
        · exact (h0 (k - 5) (by omega) (by omega)).symm
    · show (if 40 + k < 40 then _ else if 40 + k < 44 then u (40 + k - 40) else _) = _
      rw [if_neg (by omega), if_pos (by omega), Nat.add_sub_cancel_left]
  rw [e1, e2] at h
  exact h
theorem put_known {ρ : Env} {e e' : Nat → IE} {em em' : IE} {b : BE} {eu s : Nat → IE} {m : Nat} (hm : m ≤ 8) (hem : em.den ρ = m) (h0 : ∀ k, 5 * m ≤ k → k < 40 → (e k).den ρ = 0)
    (he' : ∀ k, k < 40 → (e' k).den ρ = if k < 5 then (s k).den ρ else (e (k - 5)).den ρ) (hem' : em'.den ρ = ((min (m + 1) 8 : Nat) : Int)) : Known Try.prog ρ (15, [.agg (filS e em b eu), .agg (samS s)], .agg (filS e' em' b eu)) := by
  intro φ w _
  have h := put_any (c := fun k => (e k).den ρ) (had := b.den ρ) (u := fun k => (eu k).den ρ) (s := fun k => (s k).den ρ) hm h0 w
  have e1 : (SV.denL ρ φ [.agg (filS e em b eu), .agg (samS s)]).toArray = #[.agg (filV (fun k => (e k).den ρ) m (b.den ρ) fun k => (eu k).den ρ).toArray, .agg ((List.range 5).map fun k => .int .i64 ((s k).den ρ)).toArray] := by
    simp only [SV.denL, SV.den, filS_den, samS_den, hem]
  have e2 : (SV.agg (filS e' em' b eu)).den ρ φ = .agg (filV (fun k => if k < 5 then (s k).den ρ else (e (k - 5)).den ρ) ((min (m + 1) 8 : Nat) : Int) (b.den ρ) fun k => (eu k).den ρ).toArray := by
    simp only [SV.den, filS_den]
    rw [filV_congr he' hem' (fun k hk => rfl)]
  show Calls _ _ (SV.denL ρ φ [.agg (filS e em b eu), .agg (samS s)]).toArray w _
  rw [e1]
  refine h.mono ?_
  rintro e'' w' ⟨rfl, hb⟩
  exact ⟨congrArg Ending.returned e2.symm, hb⟩
end Go.Proofs.Ythhipnhnpjhaaaa
/- Law 14: FilterEight: the loop, the walk. -/
namespace Go.Proofs.Ythhipnhnpjhaaaa
open Go Go.RowKit Ev
set_option linter.unusedVariables false
set_option linter.unusedSimpArgs false
set_option maxRecDepth 100000
set_option maxHeartbeats 0

/-- a known context by its conditions too -/
theorem knows_pc {ρ : Env} {X : Ctx} (hpc : ∀ c ∈ X.pc, c.1.den ρ = c.2) (hr : AllIn ρ.i X.rg 0) (ha : ∀ (f : Nat) v, X.ar[f]? = some v → ∀ a b c, v.1 ≤ ρ.a f a b c ∧ ρ.a f a b c ≤ v.2) (hxs : ∀ (j : Nat) d, X.xs[j]? = some d → XOk ρ d (ρ.x j) := by intro _ _ h; cases h) (hnm : ∀ p ∈ X.nm, p.1.den ρ = p.2.den ρ := by intro _ h; cases h) (hss : X.ss = [] := by rfl) (hnb : X.nb = [] := by rfl) : Knows ρ X :=
  ⟨hpc, fun i v h => (by have := hr.get i v h; rwa [Nat.zero_add] at this), ha, hxs, hnm, fun j d h => (by rw [hss] at h; simp at h), fun p h => (by rw [hnb] at h; cases h)⟩
abbrev sKs : List EK := [.int .i64, .int .i64, .int .i64, .int .i64, .int .i64]
abbrev sXs : List XD := [⟨0, 20, sKs⟩]
abbrev sAr : List (Int × Int) := arN ++ [i64I, i64I, i64I, i64I, i64I]
abbrev feF : FuncId := 6
abbrev feP : List Nat := [0, 1, 0, 1, 1, 1]
def feU (k : Nat) : IE := if k = 0 then .var 1 else .lit 0
def feTm (t8 : SV) : List SV := [.xs 0, .bool (.var 0), .int .i64 (.var 1), .any, .any, .any, .bool (.lit false), .ptr 1048588 0, t8] ++ List.replicate 63 .any
def feBl (e : Nat → IE) (em : IE) : List (Nat × Blk) := [(1048588, ⟨29, filS e em (.var 0) feU⟩)]
def feL : LoopSum := ⟨feTm (.int .i64 (.lit 0)), feBl (fun _ => .lit 0) (.lit 0), .exit 0, feTm .any, feBl (fun k => .var (3 + k)) (.var 2)⟩
def feH : St := ⟨Tm.ofL (feTm (.int .i64 (.var 43))), feBl (fun k => .var (45 + k)) (.var 44)⟩
def feE : List IE := vrs 43 ++ (.lit 0 :: .lit 0 :: (List.range 40).map fun _ => .lit 0)
def feRl : List (Int × Int) := (0, 200) :: i64I :: (0, 8) :: List.replicate 40 i64I
def feR : List (Int × Int) := feRl ++ ((0, 200) :: (0, 8) :: List.replicate 40 i64I)
def feM : IE := .mn (.pl .add (.var 44) (.lit 1)) (.lit 8)
def feN (k : Nat) : IE := if k < 5 then .ap (20 + k) (.var 43) (.lit 0) (.lit 0) else .var (45 + (k - 5))
def fePut : FuncId × List SV × SV := (15, [.agg (filS (fun k => .var (45 + k)) (.var 44) (.var 0) feU), .agg (samS fun k => .ap (20 + k) (.var 43) (.lit 0) (.lit 0))], .agg (filS feN feM (.var 0) feU))
def feFact (k c : Nat) : BE × Bool := (.cmp .eql (.var (45 + (5 * k + c))) (.ap (20 + c) (.pl .sub (.var 43) (.lit ((k + 1 : Nat) : Int))) (.lit 0) (.lit 0)), true)
def feX : Ctx := { pc := (List.range 7).flatMap fun k => (List.range 5).map fun c => feFact k c, cr := [fePut], rg := feR, ar := sAr, xs := sXs, nm := [(.pl .sub (.var 43) (.lit 0), .var 43)] }
def feGo : RT := .go (vrs 43 ++ (.pl .add (.var 43) (.lit 1) :: feM :: (List.range 40).map feN)) [.var 0]
def feSt : RT := .stop ((List.range 43).map fun n => .var (if n < 2 then n else if n = 2 then 44 else 45 + (n - 3))) [.var 0]
/-- things behind the first ones are nought -/
def feZ : List Nat → RT
  | [] => feGo
  | k :: ks => .node (.cmp .eql (.var (45 + k)) (.lit 0)) (feZ ks) .dead
def feC : Nat → Nat → RT
  | _, 0 => feGo
  | k, n + 1 => .node (.cmp .lss (.var 43) (.lit (k : Int))) (feZ (List.range' (5 * (k - 1)) (35 - 5 * (k - 1)))) (.node (.cmp .lss (.pl .sub (.var 43) (.lit (k : Int))) (.lit 0)) .dead (.node (.cmp .lss (.pl .sub (.var 43) (.lit (k : Int))) (.var 0)) (feC (k + 1) n) .dead))
def feT : RT := .node (.cmp .lss (.var 43) (.var 0)) (feC 1 7) feSt
theorem fe_B : lpB Try.prog feX 3000 feF feP 3 feL feH feT feE [.var 0] = true := by kernel_rfl
end Go.Proofs.Ythhipnhnpjhaaaa
/- Law 14: FilterEight: what holds at the loop's head; the walk. -/
namespace Go.Proofs.Ythhipnhnpjhaaaa
open Go Go.RowKit Ev
set_option linter.unusedVariables false
set_option linter.unusedSimpArgs false
set_option maxRecDepth 100000
set_option maxHeartbeats 0

/-- a cell of the caller's samples -/
def sRow (rows : List (Int → Int)) (c : Nat) (a : Int) : Int := (rows.getD c (fun _ => 0)) a
/-- the filter's cells, ahead of the i-th sample -/
def sWin (rows : List (Int → Int)) (i : Nat) (k : Nat) : Int := sRow rows (k % 5) ((i : Int) - 1 - ((k / 5 : Nat) : Int))
theorem apR_row {rows : List (Int → Int)} {c : Nat} {a : Int} : apR rows (20 + c) a 0 0 = sRow rows c a := by
  unfold apR sRow
  rw [if_neg (by omega), Nat.add_sub_cancel_left]
theorem sRow_neg {W : World} {v : Value} {B : Ext} {rows : List (Int → Int)} (hB : XAny sKs W v B rows) {c : Nat} {a : Int} (ha : a < 0) : sRow rows c a = 0 := hB.ng c a ha
theorem sRow_in {W : World} {v : Value} {B : Ext} {rows : List (Int → Int)} (hB : XAny sKs W v B rows) {c : Nat} (hc : c < 5) (a : Int) : InI (sRow rows c a) := by
  have := hB.rg c i64I (by
    have : (sKs.map ekR)[c]? = some i64I := by
      match c, hc with
      | 0, _ => rfl
      | 1, _ => rfl
      | 2, _ => rfl
      | 3, _ => rfl
      | 4, _ => rfl
    exact this) a
  exact this
theorem sWin_in {W : World} {v : Value} {B : Ext} {rows : List (Int → Int)} (hB : XAny sKs W v B rows) {i k : Nat} : InI (sWin rows i k) := sRow_in hB (Nat.mod_lt _ (by decide)) _
theorem sWin_zero {W : World} {v : Value} {B : Ext} {rows : List (Int → Int)} (hB : XAny sKs W v B rows) {i k : Nat} (h : i ≤ k / 5) : sWin rows i k = 0 := sRow_neg hB (by omega)
theorem sWin_next {rows : List (Int → Int)} {i k : Nat} : sWin rows (i + 1) k = if k < 5 then sRow rows k (i : Int) else sWin rows i (k - 5) := by
  unfold sWin
  split
  · rw [show k % 5 = k by omega, show k / 5 = 0 by omega]
    congr 1; omega
  · rw [show (k - 5) % 5 = k % 5 by omega]
    congr 1; omega
theorem sArIn {W : World} {v : Value} {B : Ext} {rows : List (Int → Int)} (hB : XAny sKs W v B rows) {ρ : Env} (ha : ρ.a = apR rows) : ArIn ρ sAr := arIn_R ha hB.rg

def feI (len : Nat) (used : Int) (rows : List (Int → Int)) (n : Nat) : Int := if n = 0 then (len : Int) else if n = 1 then used else if n = 2 then ((min len 8 : Nat) : Int) else sWin rows len (n - 3)
noncomputable def feEv (B : Ext) (used : Int) (had : Bool) (rows : List (Int → Int)) : Env := { i := feI B.len used rows, b := fun n => if n = 0 then had else false, a := apR rows, x := fun n => [some B].getD n none }
section
variable {W : World} {v : Value} {B : Ext} {rows : List (Int → Int)} {used : Int} {had : Bool}
theorem fe_in (hB : XAny sKs W v B rows) (hl : B.len ≤ 200) (hu : InI used) : AllIn (feEv B used had rows).i feRl 0 := by
  refine ⟨?_, hu, ?_, AllIn.rep fun k hk => ?_⟩
  · show (0 : Int) ≤ (B.len : Nat) ∧ ((B.len : Nat) : Int) ≤ 200
    omega
  · show (0 : Int) ≤ ((min B.len 8 : Nat) : Int) ∧ ((min B.len 8 : Nat) : Int) ≤ 8
    omega
  · show _ ≤ feI B.len used rows (0 + 1 + 1 + 1 + k) ∧ feI B.len used rows (0 + 1 + 1 + 1 + k) ≤ _
    rw [show 0 + 1 + 1 + 1 + k = 3 + k by omega]
    unfold feI
    rw [if_neg (by omega), if_neg (by omega), if_neg (by omega)]
    exact sWin_in hB
theorem feZ_next {ρ : Env} : ∀ {l : List Nat}, (∀ k ∈ l, ρ.i (45 + k) = 0) → (feZ l).next ρ = feGo.next ρ
  | [], _ => rfl
  | k :: l, h => by
    have e : (feZ (k :: l)).next ρ = cond (ρ.i (45 + k) == 0) ((feZ l).next ρ) none := rfl
    rw [e, h k (by simp), feZ_next fun x hx => h x (by simp [hx])]
    rfl
theorem feC_next {ρ : Env} {i len : Nat} (hi : ρ.i 43 = i) (hn : ρ.i 0 = len) (hlt : i < len) (hz : ∀ k, k < 35 → i ≤ k / 5 → ρ.i (45 + k) = 0) : ∀ {n k : Nat}, k + n = 8 → 1 ≤ k → k ≤ i + 1 → (feC k n).next ρ = feGo.next ρ
  | 0, k, _, _, _ => rfl
  | n + 1, k, h1, h2, h3 => by
    have e : (feC k (n + 1)).next ρ = cond (decide (ρ.i 43 < (k : Int))) ((feZ (List.range' (5 * (k - 1)) (35 - 5 * (k - 1)))).next ρ) (cond (decide (ρ.i 43 - (k : Int) < 0)) none (cond (decide (ρ.i 43 - (k : Int) < ρ.i 0)) ((feC (k + 1) n).next ρ) none)) := rfl
    rw [e, hi, hn]
    by_cases hk : i < k
    · rw [decide_eq_true (by omega), cond_true]
      refine feZ_next fun x hx => ?_
      have := List.mem_range'_1.1 hx
      exact hz x (by omega) (by omega)
    · rw [decide_eq_false (by omega), cond_false, decide_eq_false (by omega), cond_false, decide_eq_true (by omega), cond_true]
      exact feC_next hi hn hlt hz (by omega) (by omega) (by omega)
theorem fe_loop (hB : XAny sKs W v B rows) (hl : B.len ≤ 200) (hu : InI used) {c : Code} (hc : codeAt Try.prog feF feP = .loop c) (E : List (Nat × Nat)) : LoopGoes Try.prog (feEv B used had rows) E feL c := by
  have hin := fe_in (had := had) hB hl hu
  refine rt_lpg mixed fe_B hc (ρ := feEv B used had rows) (fun n is bs => ∃ i : Nat, n + i = B.len ∧ is = (List.range 43).map (feEv B used had rows).i ++ ((i : Int) :: ((min i 8 : Nat) : Int) :: (List.range 40).map fun k => sWin rows i k) ∧ bs = [had]) ?_ ?_ ?_ ?_
  · rintro n is bs ⟨i, h1, rfl, rfl⟩
    generalize hρ : (feEv B used had rows).on ((List.range 43).map (feEv B used had rows).i ++ ((i : Int) :: ((min i 8 : Nat) : Int) :: (List.range 40).map fun k => sWin rows i k)) [had] = ρ'
    have lo : ∀ k, k < 43 → ρ'.i k = (feEv B used had rows).i k := fun k hk => by rw [← hρ]; exact on_lo hk
    have hi : ρ'.i 43 = (i : Nat) := by rw [← hρ]; exact on_hi 0
    have hm : ρ'.i 44 = ((min i 8 : Nat) : Int) := by rw [← hρ]; exact on_hi 1
    have hv : ∀ k, k < 40 → ρ'.i (45 + k) = sWin rows i k := fun k hk => by rw [← hρ, show 45 + k = 43 + (k + 2) by omega, on_hi, List.getD_cons_succ, List.getD_cons_succ, getD_map hk]
    have ha : ρ'.a = apR rows := by rw [← hρ]; rfl
    have hx : ρ'.x = fun n => [some B].getD n none := by rw [← hρ]; rfl
    refine knows_pc (fun c hc => ?_) ?_ (sArIn hB ha) (xs_one (xok_any hB ha (n := 0) (by rw [lo 0 (by omega)]; rfl)) (by rw [hx]; rfl)) (fun p hp => ?_)
    · obtain ⟨k, hk, hc⟩ := List.mem_flatMap.1 hc
      obtain ⟨x, hx, rfl⟩ := List.mem_map.1 hc
      have hk := List.mem_range.1 hk
      have hx := List.mem_range.1 hx
      show (ρ'.i (45 + (5 * k + x)) == ρ'.a (20 + x) (ρ'.i 43 - ((k + 1 : Nat) : Int)) 0 0) = true
      rw [ha, apR_row, hv _ (by omega), hi]
      unfold sWin
      rw [show (5 * k + x) % 5 = x by omega, show (5 * k + x) / 5 = k by omega, show ((i : Int) - 1 - (k : Int)) = (i : Int) - ((k + 1 : Nat) : Int) by omega]
      exact beq_self_eq_true _
    · show AllIn ρ'.i feR 0
      unfold feR
      refine AllIn.app (AllIn.congr (fun k hk => by rw [Nat.zero_add]; exact lo k (by simp [feRl] at hk; omega)) hin) ?_
      refine ⟨?_, ?_, AllIn.rep fun k hk => ?_⟩
      · show (0 : Int) ≤ ρ'.i 43 ∧ ρ'.i 43 ≤ 200
        rw [hi]; omega
      · show (0 : Int) ≤ ρ'.i 44 ∧ ρ'.i 44 ≤ 8
        rw [hm]; omega
      · show _ ≤ ρ'.i (45 + k) ∧ ρ'.i (45 + k) ≤ _
        rw [hv k hk]; exact sWin_in hB
    · obtain rfl := List.mem_singleton.1 hp
      show ρ'.i 43 - 0 = ρ'.i 43
      omega
  · rintro n is bs ⟨i, h1, rfl, rfl⟩ E
    generalize hρ : (feEv B used had rows).on ((List.range 43).map (feEv B used had rows).i ++ ((i : Int) :: ((min i 8 : Nat) : Int) :: (List.range 40).map fun k => sWin rows i k)) [had] = ρ'
    have hi : ρ'.i 43 = (i : Nat) := by rw [← hρ]; exact on_hi 0
    have hm : ρ'.i 44 = ((min i 8 : Nat) : Int) := by rw [← hρ]; exact on_hi 1
    have hv : ∀ k, k < 40 → ρ'.i (45 + k) = sWin rows i k := fun k hk => by rw [← hρ, show 45 + k = 43 + (k + 2) by omega, on_hi, List.getD_cons_succ, List.getD_cons_succ, getD_map hk]
    have ha : ρ'.a = apR rows := by rw [← hρ]; rfl
    refine ⟨fun q hq => ?_, fun pc _ f vs v h => (by cases h), fun f p u L h => (by cases h)⟩
    obtain rfl := List.mem_singleton.1 hq
    refine put_known (m := min i 8) (by omega) hm (fun k h1 h2 => ?_) (fun k hk => ?_) ?_
    · show ρ'.i (45 + k) = 0
      rw [hv k h2]
      exact sWin_zero hB (by omega)
    · show (feN k).den ρ' = if k < 5 then ρ'.a (20 + k) (ρ'.i 43) 0 0 else ρ'.i (45 + (k - 5))
      unfold feN
      split <;> rfl
    · show mnI (ρ'.i 44 + 1) 8 = _
      rw [hm]
      unfold mnI
      split <;> omega
  · refine ⟨B.len, _, _, ⟨0, rfl, rfl, rfl⟩, ?_, List.prefix_rfl⟩
    unfold feE
    rw [dens_app, dens_vrs]
    refine pre_of_eq ?_
    congr 1
    show (0 : Int) :: 0 :: dens _ _ = _
    rw [dens_map]
    refine congrArg _ (congrArg _ (map_range_congr fun k hk => ?_))
    exact (sWin_zero hB (Nat.zero_le _)).symm
  · rintro n is bs ⟨i, h1, rfl, rfl⟩
    generalize hρ : (feEv B used had rows).on ((List.range 43).map (feEv B used had rows).i ++ ((i : Int) :: ((min i 8 : Nat) : Int) :: (List.range 40).map fun k => sWin rows i k)) [had] = ρ'
    have lo : ∀ k, k < 43 → ρ'.i k = (feEv B used had rows).i k := fun k hk => by rw [← hρ]; exact on_lo hk
    have hi : ρ'.i 43 = (i : Nat) := by rw [← hρ]; exact on_hi 0
    have hm : ρ'.i 44 = ((min i 8 : Nat) : Int) := by rw [← hρ]; exact on_hi 1
    have hv : ∀ k, k < 40 → ρ'.i (45 + k) = sWin rows i k := fun k hk => by rw [← hρ, show 45 + k = 43 + (k + 2) by omega, on_hi, List.getD_cons_succ, List.getD_cons_succ, getD_map hk]
    have ha : ρ'.a = apR rows := by rw [← hρ]; rfl
    have hn : ρ'.i 0 = (B.len : Nat) := by rw [lo 0 (by omega)]; rfl
    have hbs : bdens ρ' [.var 0] = [had] := by rw [← hρ]; rfl
    by_cases hlt : i < B.len
    · left
      refine ⟨(vrs 43 ++ (IE.pl .add (.var 43) (.lit 1) :: feM :: (List.range 40).map feN)).map (IE.den ρ'), [had], n - 1, _, _, ?_, by omega, ⟨i + 1, by omega, rfl, rfl⟩, ?_, List.prefix_rfl⟩
      · have e : feT.next ρ' = cond (decide (ρ'.i 43 < ρ'.i 0)) ((feC 1 7).next ρ') none := rfl
        rw [e, hi, hn, decide_eq_true (by omega), cond_true, feC_next hi hn hlt (fun k h1 h2 => by rw [hv k (by omega)]; exact sWin_zero hB h2) (by omega) (by omega) (by omega)]
        show some (dens ρ' _, bdens ρ' [.var 0]) = _
        rw [hbs]
        rfl
      · refine (pre_of_eq (dens_app (ρ := ρ') (vrs 43) _)).trans ?_
        rw [dens_vrs, map_range_congr (fun k hk => lo k hk)]
        refine pre_of_eq ?_
        congr 1
        show (ρ'.i 43 + 1) :: mnI (ρ'.i 44 + 1) 8 :: dens ρ' _ = _
        rw [hi, hm, dens_map]
        refine congr (congrArg _ (by omega)) (congr (congrArg _ ?_) (map_range_congr fun k hk => ?_))
        · unfold mnI
          split <;> omega
        · rw [sWin_next]
          unfold feN
          split
          · show ρ'.a (20 + k) (ρ'.i 43) 0 0 = _
            rw [ha, apR_row, hi]
          · show ρ'.i (45 + (k - 5)) = _
            rw [hv _ (by omega)]
    · right
      obtain rfl : i = B.len := by omega
      have e : feT.out ρ' = cond (decide (ρ'.i 43 < ρ'.i 0)) ((feC 1 7).out ρ') (feSt.out ρ') := rfl
      rw [e, hi, hn, decide_eq_false (by omega), cond_false]
      refine ⟨_, _, rfl, ?_⟩
      rw [dens_map, hbs]
      refine has_fun (fun k hk => ?_) (fun i x h => by cases i with | zero => (simp at h; exact h) | succ i => simp at h)
      show feI B.len used rows k = ρ'.i _
      split
      · rw [lo k hk]; rfl
      · split
        · rename_i h2
          subst h2
          rw [hm]; rfl
        · rw [hv _ (by omega)]
          unfold feI
          rw [if_neg (by omega), if_neg (by omega), if_neg (by omega)]
end
def feLp (f : FuncId) (p : List Nat) (_ : Nat) : Option LoopSum := if Nat.beq f feF && decide (p = feP) then some feL else none
def feW : Tree :=
(.node (.cmp .eql (.var 2) (.mn (.var 0) (.lit 8)))
 (.node (.var 0)
 (.leaf (.bool (.cmp .eql (.var 1) (.var 1))))
 (.leaf (.bool (.cmp .eql (.var 1) (.var 1)))))
 (.leaf (.bool (.lit false))))
theorem filterEight_walk {v : Value} {had : Bool} {used : Int} {W : World} (hv : IsXs sKs W v) (hu : InI used) :
    Calls Try.prog feF #[v, .bool had, .int .i64 used] W fun e w' => e = .returned (.bool true) ∧ Below W.heap.size W w' := by
  obtain ⟨B, rows, hB⟩ := hv.any
  have hval := hB.val
  have hle := hB.le
  by_cases hl : B.len ≤ 200
  · have h := law_cs (ρ := feEv B used had rows) (rg := feRl) (ar := sAr) (args := [.xs 0, .bool (.var 0), .int .i64 (.var 1)]) (fe_in hB hl hu) (sArIn hB rfl) (cs := []) (fun c hc => by cases hc) (cr := k14) k14_ok (lp := feLp)
      (fun f p u L h c hc _ => by
        unfold feLp at h
        split at h
        · rename_i hcc
          simp only [Bool.and_eq_true, Nat.beq_eq, decide_eq_true_eq] at hcc
          obtain ⟨rfl, rfl⟩ := hcc
          cases h
          exact fe_loop hB hl hu hc []
        · cases h) (xs := sXs) (xs_one (xok_any hB rfl rfl) rfl) (nm := []) (fun p hp => by cases hp) (nz := false) feW (n := 3000) (f := feF) (Tree.ok_of_check (by kernel_rfl)) ?_ W (ext_any hB rfl)
    · rw [hval]; exact h
    · show cond (((min B.len 8 : Nat) : Int) == mnI ((B.len : Nat) : Int) 8) (cond had (used == used) (used == used)) false = true
      have : mnI ((B.len : Nat) : Int) 8 = ((min B.len 8 : Nat) : Int) := by unfold mnI; split <;> omega
      rw [this, beq_self_eq_true, beq_self_eq_true]
      cases had <;> rfl
  · have h := law_cs (ρ := feEv B used had rows) (rg := [(201, 9223372036854775807), i64I]) (ar := sAr) (args := [.xs 0, .bool (.var 0), .int .i64 (.var 1)]) ⟨by show (201 : Int) ≤ (B.len : Nat) ∧ ((B.len : Nat) : Int) ≤ 9223372036854775807; unfold maxLen at hle; omega, hu, trivial⟩ (sArIn hB rfl) (cs := []) (fun c hc => by cases hc) (cr := k14) k14_ok LpOk.none (xs := sXs) (xs_one (xok_any hB rfl rfl) rfl) (nm := []) (fun p hp => by cases hp) (nz := false) (.leaf (.bool (.lit true))) (n := 3000) (f := feF) (Tree.ok_of_check (by kernel_rfl)) rfl W (ext_any hB rfl)
    rw [hval]; exact h
end Go.Proofs.Ythhipnhnpjhaaaa
/- Law 14: FilterLeast: its first loop. -/
namespace Go.Proofs.Ythhipnhnpjhaaaa
open Go Go.RowKit Ev
set_option linter.unusedVariables false
set_option linter.unusedSimpArgs false
set_option maxRecDepth 100000
set_option maxHeartbeats 0

abbrev flF : FuncId := 4
abbrev flP : List Nat := [0, 1, 0, 1, 1, 1]
def flTm (t8 : SV) : List SV := [.xs 0, .int .i8 (.var 1), .int .i32 (.var 2), .any, .any, .any, .bool (.lit false), .ptr 1048591 0, t8] ++ List.replicate 129 .any
def flBl (e : Nat → IE) (em : IE) : List (Nat × Blk) := [(1048591, ⟨29, filS e em (.lit false) fun _ => .lit 0⟩)]
def flL : LoopSum := ⟨flTm (.int .i64 (.lit 0)), flBl (fun _ => .lit 0) (.lit 0), .exit 0, flTm .any, flBl (fun k => .var (4 + k)) (.var 3)⟩
def flH : St := ⟨Tm.ofL (flTm (.int .i64 (.var 51))), flBl (fun k => .var (53 + k)) (.var 52)⟩
def flE : List IE := vrs 51 ++ (.lit 0 :: .lit 0 :: (List.range 40).map fun _ => .lit 0)
/-- the law's numbers: the length, own, total; the filter behind the loop; what is told -/
def flRl : List (Int × Int) := (1, 200) :: (-128, 127) :: (-2147483648, 2147483647) :: (0, 8) :: List.replicate 47 i64I
def flR : List (Int × Int) := flRl ++ ((0, 200) :: (0, 8) :: List.replicate 40 i64I)
def flM : IE := .mn (.pl .add (.var 52) (.lit 1)) (.lit 8)
def flN (k : Nat) : IE := if k < 5 then .ap (20 + k) (.var 51) (.lit 0) (.lit 0) else .var (53 + (k - 5))
def flPut : FuncId × List SV × SV := (15, [.agg (filS (fun k => .var (53 + k)) (.var 52) (.lit false) fun _ => .lit 0), .agg (samS fun k => .ap (20 + k) (.var 51) (.lit 0) (.lit 0))], .agg (filS flN flM (.lit false) fun _ => .lit 0))
def flX : Ctx := { pc := [], cr := [flPut], rg := flR, ar := sAr, xs := sXs }
def flGo : RT := .go (vrs 51 ++ (.pl .add (.var 51) (.lit 1) :: flM :: (List.range 40).map flN)) []
def flSt : RT := .stop ((List.range 51).map fun n => .var (if n < 3 then n else if n = 3 then 52 else if n < 44 then 53 + (n - 4) else n)) []
def flT : RT := .node (.cmp .lss (.var 51) (.var 0)) flGo flSt
theorem fl_B : lpB Try.prog flX 3000 flF flP 3 flL flH flT flE [] = true := by kernel_rfl
def flLp (f : FuncId) (p : List Nat) (_ : Nat) : Option LoopSum := if Nat.beq f flF && decide (p = flP) then some flL else none
def flTell (tot : IE) (o j : Nat) : FuncId × List SV × SV := (18, [stdS, .agg (filS (fun k => .var (4 + k)) (.var 3) (.lit false) fun _ => .lit 0), .int .i64 (.var 1), .int .i64 (.lit 9), .int .i64 tot], .tuple [.agg [.int .i64 (.var o), .int .i64 (.var 45), .int .i64 (.var 46), .int .i64 (.var j), .int .i64 (.var 48)], .bool (.lit true)])
def flCr : List (FuncId × List SV × SV) := [flTell (.lit 0) 44 47, flTell (.var 2) 49 50]
abbrev fmP : List Nat := [0, 1, 0, 1, 1, 1, 1, 1, 1, 1, 1]
end Go.Proofs.Ythhipnhnpjhaaaa
/- Law 14: FilterLeast: its second loop; what the evaluator comes to. -/
namespace Go.Proofs.Ythhipnhnpjhaaaa
open Go Go.RowKit Ev
set_option linter.unusedVariables false
set_option linter.unusedSimpArgs false
set_option maxRecDepth 100000
set_option maxHeartbeats 0

def fmTm (t13 t14 : SV) : List SV := [.xs 0, .any, .any, .any, .any, .any, .bool (.lit false), .ptr 1048591 0, .any, .ptr 1048602 0, .any, .any, .any, t13, t14] ++ List.replicate 123 .any
def fmBl : List (Nat × Blk) := [(1048591, ⟨29, filS (fun k => .var (4 + k)) (.var 3) (.lit false) fun _ => .lit 0⟩), (1048602, ⟨33, [.int .i64 (.var 44), .int .i64 (.var 45), .int .i64 (.var 46), .int .i64 (.var 47), .int .i64 (.var 48)]⟩)]
def fmS : IE := .mx (.lit 0) (.pl .sub (.var 0) (.lit 8))
def fmL : LoopSum := ⟨fmTm (.bool (.lit false)) (.int .i64 fmS), fmBl, .exit 2, fmTm (.bool (.var 0)) .any, fmBl⟩
def fmH : St := ⟨Tm.ofL (fmTm (.bool (.var 1)) (.int .i64 (.var 51))), fmBl⟩
def fmE : List IE := vrs 51 ++ [fmS]
def fmX : Ctx := { pc := [], rg := flRl ++ [(0, 200)], ar := sAr, xs := sXs }
def fmGo (b : BE) : RT := .go (vrs 51 ++ [.pl .add (.var 51) (.lit 1)]) [.var 0, b]
def fmT : RT := .node (.cmp .lss (.var 51) (.var 0))
  (.node (.cmp .lss (.ap 21 (.var 51) (.lit 0) (.lit 0)) (.var 45)) .dead
    (.node (.var 1) (fmGo (.lit true))
      (.node (.cmp .eql (.ap 21 (.var 51) (.lit 0) (.lit 0)) (.var 45)) (fmGo (.cmp .eql (.ap 23 (.var 51) (.lit 0) (.lit 0)) (.var 48))) (fmGo (.lit false)))))
  (.stop (vrs 51) [.var 1])
theorem fm_B : lpB Try.prog fmX 3000 flF fmP 3 fmL fmH fmT fmE [.var 0, .lit false] = true := by kernel_rfl
def flLp2 (f : FuncId) (p : List Nat) (_ : Nat) : Option LoopSum := if Nat.beq f flF && decide (p = flP) then some flL else if Nat.beq f flF && decide (p = fmP) then some fmL else none
end Go.Proofs.Ythhipnhnpjhaaaa
/- Law 14: the rounds of the sort, as the kernel reckons them. -/
namespace Go.Proofs.Ythhipnhnpjhaaaa
open Go Go.RowKit Ev
set_option linter.unusedVariables false
set_option maxRecDepth 100000
set_option maxHeartbeats 0
theorem ou_B1 : lpB Try.prog (ouX 1) 1000 104 ouP 1 (ouL 1) (ouH 1) (ouT 1) (ouE 1) [.var 0] = true := by kernel_rfl
theorem ou_C1 : lpB Try.prog (ouX2 1) 1000 104 ouP 1 (ouL 1) (ouH 1) (ouT2 1) (ouE 1) [.var 0] = true := by kernel_rfl
theorem in_B2 : lpB Try.prog (inX 2) 1000 104 inP 3 (inL 2) (inH 2) (inT 2) (inE 2) [.var 0] = true := by kernel_rfl
theorem ou_B2 : lpB Try.prog (ouX 2) 1000 104 ouP 1 (ouL 2) (ouH 2) (ouT 2) (ouE 2) [.var 0] = true := by kernel_rfl
theorem ou_C2 : lpB Try.prog (ouX2 2) 1000 104 ouP 1 (ouL 2) (ouH 2) (ouT2 2) (ouE 2) [.var 0] = true := by kernel_rfl
theorem in_B3 : lpB Try.prog (inX 3) 1000 104 inP 3 (inL 3) (inH 3) (inT 3) (inE 3) [.var 0] = true := by kernel_rfl
theorem ou_B3 : lpB Try.prog (ouX 3) 1000 104 ouP 1 (ouL 3) (ouH 3) (ouT 3) (ouE 3) [.var 0] = true := by kernel_rfl
theorem ou_C3 : lpB Try.prog (ouX2 3) 1000 104 ouP 1 (ouL 3) (ouH 3) (ouT2 3) (ouE 3) [.var 0] = true := by kernel_rfl
theorem in_B4 : lpB Try.prog (inX 4) 1000 104 inP 3 (inL 4) (inH 4) (inT 4) (inE 4) [.var 0] = true := by kernel_rfl
theorem ou_B4 : lpB Try.prog (ouX 4) 1000 104 ouP 1 (ouL 4) (ouH 4) (ouT 4) (ouE 4) [.var 0] = true := by kernel_rfl
theorem ou_C4 : lpB Try.prog (ouX2 4) 1000 104 ouP 1 (ouL 4) (ouH 4) (ouT2 4) (ouE 4) [.var 0] = true := by kernel_rfl
theorem in_B5 : lpB Try.prog (inX 5) 1000 104 inP 3 (inL 5) (inH 5) (inT 5) (inE 5) [.var 0] = true := by kernel_rfl
theorem ou_B5 : lpB Try.prog (ouX 5) 1000 104 ouP 1 (ouL 5) (ouH 5) (ouT 5) (ouE 5) [.var 0] = true := by kernel_rfl
theorem ou_C5 : lpB Try.prog (ouX2 5) 1000 104 ouP 1 (ouL 5) (ouH 5) (ouT2 5) (ouE 5) [.var 0] = true := by kernel_rfl
end Go.Proofs.Ythhipnhnpjhaaaa
/- Law 14: the rounds of the sort, as the kernel reckons them. -/
namespace Go.Proofs.Ythhipnhnpjhaaaa
open Go Go.RowKit Ev
set_option linter.unusedVariables false
set_option maxRecDepth 100000
set_option maxHeartbeats 0
theorem in_B6 : lpB Try.prog (inX 6) 1000 104 inP 3 (inL 6) (inH 6) (inT 6) (inE 6) [.var 0] = true := by kernel_rfl
theorem ou_B6 : lpB Try.prog (ouX 6) 1000 104 ouP 1 (ouL 6) (ouH 6) (ouT 6) (ouE 6) [.var 0] = true := by kernel_rfl
theorem ou_C6 : lpB Try.prog (ouX2 6) 1000 104 ouP 1 (ouL 6) (ouH 6) (ouT2 6) (ouE 6) [.var 0] = true := by kernel_rfl
theorem in_B7 : lpB Try.prog (inX 7) 1000 104 inP 3 (inL 7) (inH 7) (inT 7) (inE 7) [.var 0] = true := by kernel_rfl
theorem ou_B7 : lpB Try.prog (ouX 7) 1000 104 ouP 1 (ouL 7) (ouH 7) (ouT 7) (ouE 7) [.var 0] = true := by kernel_rfl
theorem ou_C7 : lpB Try.prog (ouX2 7) 1000 104 ouP 1 (ouL 7) (ouH 7) (ouT2 7) (ouE 7) [.var 0] = true := by kernel_rfl
end Go.Proofs.Ythhipnhnpjhaaaa
/- Law 14: the rounds of the sort, as the kernel reckons them. -/
namespace Go.Proofs.Ythhipnhnpjhaaaa
open Go Go.RowKit Ev
set_option linter.unusedVariables false
set_option maxRecDepth 100000
set_option maxHeartbeats 0
theorem in_B8 : lpB Try.prog (inX 8) 1000 104 inP 3 (inL 8) (inH 8) (inT 8) (inE 8) [.var 0] = true := by kernel_rfl
theorem ou_B8 : lpB Try.prog (ouX 8) 1000 104 ouP 1 (ouL 8) (ouH 8) (ouT 8) (ouE 8) [.var 0] = true := by kernel_rfl
theorem ou_C8 : lpB Try.prog (ouX2 8) 1000 104 ouP 1 (ouL 8) (ouH 8) (ouT2 8) (ouE 8) [.var 0] = true := by kernel_rfl
end Go.Proofs.Ythhipnhnpjhaaaa
/- Law 14: Tell, for so many samples, as the kernel reckons it. -/
namespace Go.Proofs.Ythhipnhnpjhaaaa
open Go Go.RowKit Ev
set_option linter.unusedVariables false
set_option maxRecDepth 100000
set_option maxHeartbeats 0
theorem tell_k0 : (Tree.leaf (tRes 0)).check Try.prog { tX 0 with lp := fun _ _ _ => none } 3000 18 (tA 0) = true := by kernel_rfl
theorem tell_r0 : (Tree.leaf (tRes 0)).check Try.prog (tX 0) 3000 18 (tA 0) = true := by kernel_rfl
theorem tell_r1 : (Tree.leaf (tRes 1)).check Try.prog (tX 1) 3000 18 (tA 1) = true := by kernel_rfl
theorem tell_r2 : (Tree.leaf (tRes 2)).check Try.prog (tX 2) 3000 18 (tA 2) = true := by kernel_rfl
theorem tell_r3 : (Tree.leaf (tRes 3)).check Try.prog (tX 3) 3000 18 (tA 3) = true := by kernel_rfl
theorem tell_r4 : (Tree.leaf (tRes 4)).check Try.prog (tX 4) 3000 18 (tA 4) = true := by kernel_rfl
theorem tell_r5 : (Tree.leaf (tRes 5)).check Try.prog (tX 5) 3000 18 (tA 5) = true := by kernel_rfl
end Go.Proofs.Ythhipnhnpjhaaaa
/- Law 14: Tell, for so many samples, as the kernel reckons it. -/
namespace Go.Proofs.Ythhipnhnpjhaaaa
open Go Go.RowKit Ev
set_option linter.unusedVariables false
set_option maxRecDepth 100000
set_option maxHeartbeats 0
theorem tell_r6 : (Tree.leaf (tRes 6)).check Try.prog (tX 6) 3000 18 (tA 6) = true := by kernel_rfl
theorem tell_r7 : (Tree.leaf (tRes 7)).check Try.prog (tX 7) 3000 18 (tA 7) = true := by kernel_rfl
theorem tell_r8 : (Tree.leaf (tRes 8)).check Try.prog (tX 8) 3000 18 (tA 8) = true := by kernel_rfl
end Go.Proofs.Ythhipnhnpjhaaaa
/- Law 14: what a filter tells of so many samples. -/
namespace Go.Proofs.Ythhipnhnpjhaaaa
open Go Go.RowKit Ev
set_option linter.unusedVariables false
set_option maxRecDepth 100000
set_option maxHeartbeats 0

theorem tell_any {c : Nat → Int} {m : Nat} {had : Bool} {u : Nat → Int} {own at_ tot : Int} (hm : m ≤ 8) (hc : ∀ k, k < 40 → InI (c k)) (hu : ∀ k, k < 4 → InI (u k)) (ho : InI own) (ha : InI at_) (ht : InI tot) (w : World) :
    Calls Try.prog 18 #[stdV, .agg (filV c m had u).toArray, .int .i64 own, .int .i64 at_, .int .i64 tot] w fun e w' => e = .returned (tellV c m had u own at_ tot) ∧ Below w.heap.size w w' := by
  match m, hm with
  | 0, hm => exact tell_of hm tell_r0 (fun h => by omega) (fun h => by omega) (fun h => by omega) (fun _ => tell_k0) hc hu ho ha ht w
  | 1, hm => exact tell_of hm tell_r1 (fun _ => ou_B1) (fun _ => ou_C1) (fun h => by omega) (fun h => by omega) hc hu ho ha ht w
  | 2, hm => exact tell_of hm tell_r2 (fun _ => ou_B2) (fun _ => ou_C2) (fun _ => in_B2) (fun h => by omega) hc hu ho ha ht w
  | 3, hm => exact tell_of hm tell_r3 (fun _ => ou_B3) (fun _ => ou_C3) (fun _ => in_B3) (fun h => by omega) hc hu ho ha ht w
  | 4, hm => exact tell_of hm tell_r4 (fun _ => ou_B4) (fun _ => ou_C4) (fun _ => in_B4) (fun h => by omega) hc hu ho ha ht w
  | 5, hm => exact tell_of hm tell_r5 (fun _ => ou_B5) (fun _ => ou_C5) (fun _ => in_B5) (fun h => by omega) hc hu ho ha ht w
  | 6, hm => exact tell_of hm tell_r6 (fun _ => ou_B6) (fun _ => ou_C6) (fun _ => in_B6) (fun h => by omega) hc hu ho ha ht w
  | 7, hm => exact tell_of hm tell_r7 (fun _ => ou_B7) (fun _ => ou_C7) (fun _ => in_B7) (fun h => by omega) hc hu ho ha ht w
  | 8, hm => exact tell_of hm tell_r8 (fun _ => ou_B8) (fun _ => ou_C8) (fun _ => in_B8) (fun h => by omega) hc hu ho ha ht w
  | n + 9, hm => omega
end Go.Proofs.Ythhipnhnpjhaaaa
