/- Contracts of fix: the sums. -/
import Derived.Test.YthhipnhnpjhaaaaNc
import Derived.Test.YthhipnhnpjhaaaaNv
namespace Go.Proofs.Ythhipnhnpjhaaaa
open Go Go.RowKit Ev
set_option linter.unusedVariables false
set_option maxRecDepth 100000

/-- what the contracts' names stand for -/
noncomputable def apN (f : Nat) (a b c : Int) : Int :=
  match f with
  | 0 => max (-1) (min 63 (wLog a))
  | 1 => sat (a + b)
  | 2 => sat (a - b)
  | 3 => sat (if b ≤ 0 then a / 2 ^ (min 63 (-b).toNat) else a * 2 ^ (min b.toNat 64))
  | 4 => sat (a * b / 4294967296)
  | 5 => if a < c then max 0 (min ((a * 18446744073709551616 + b) / c) 18446744073709551615) else 0
  | 6 => if a < c then max 0 (min ((a * 18446744073709551616 + b) % c) 18446744073709551615) else 0
  | 7 => max 0 (min (isq (a * 18446744073709551616 + b).toNat : Nat) 18446744073709551615)
  | 8 => sat (fDiv a b)
  | 9 => sat (fSqrt a)
  | 10 => sat (fClamp a b c)
  | 11 => sat (nAbs a)
  | _ => 0
abbrev satR : Int × Int := (-9223372036854775807, 9223372036854775807)
abbrev u64S : Int × Int := (0, 18446744073709551615)
abbrev arN : List (Int × Int) := [(-1, 63), satR, satR, satR, satR, u64S, u64S, u64S, satR, (0, 9223372036854775807), satR, (0, 9223372036854775807), (0, 0), (0, 0), (0, 0), (0, 0), (0, 0), (0, 0), (0, 0), (0, 0)]
theorem cut_in (x : Int) : 0 ≤ max 0 (min x 18446744073709551615) ∧ max 0 (min x 18446744073709551615) ≤ 18446744073709551615 := by omega
theorem cut_if (p : Prop) [Decidable p] (x : Int) : 0 ≤ (if p then max 0 (min x 18446744073709551615) else 0) ∧ (if p then max 0 (min x 18446744073709551615) else 0) ≤ 18446744073709551615 := by split <;> omega
theorem sat_in0 {x : Int} (h : 0 ≤ x) : 0 ≤ sat x ∧ sat x ≤ 9223372036854775807 := by unfold sat; omega
theorem fSqrt_in (a : Int) : 0 ≤ fSqrt a := by unfold fSqrt; exact Int.natCast_nonneg _
theorem nAbs_in (a : Int) : 0 ≤ nAbs a := by
  unfold nAbs
  generalize hb : (if a < 0 then -a else a) = b
  have : 0 ≤ b := by rw [← hb]; split <;> omega
  exact (sat_in0 this).1
theorem arN_ok : ∀ (f : Nat) v, arN[f]? = some v → ∀ a b c, v.1 ≤ apN f a b c ∧ apN f a b c ≤ v.2
  | 0, v, h, a, b, c => by cases h; simp only [apN]; omega
  | 1, v, h, a, b, c => by cases h; exact sat_in _
  | 2, v, h, a, b, c => by cases h; exact sat_in _
  | 3, v, h, a, b, c => by cases h; exact sat_in _
  | 4, v, h, a, b, c => by cases h; exact sat_in _
  | 5, v, h, a, b, c => by cases h; exact cut_if _ _
  | 6, v, h, a, b, c => by cases h; exact cut_if _ _
  | 7, v, h, a, b, c => by cases h; exact cut_in _
  | 8, v, h, a, b, c => by cases h; exact sat_in _
  | 9, v, h, a, b, c => by cases h; exact sat_in0 (fSqrt_in a)
  | 10, v, h, a, b, c => by cases h; exact sat_in _
  | 11, v, h, a, b, c => by cases h; exact sat_in0 (nAbs_in a)
  | 12, v, h, a, b, c => by cases h; exact ⟨Int.le_refl _, Int.le_refl _⟩
  | 13, v, h, a, b, c => by cases h; exact ⟨Int.le_refl _, Int.le_refl _⟩
  | 14, v, h, a, b, c => by cases h; exact ⟨Int.le_refl _, Int.le_refl _⟩
  | 15, v, h, a, b, c => by cases h; exact ⟨Int.le_refl _, Int.le_refl _⟩
  | 16, v, h, a, b, c => by cases h; exact ⟨Int.le_refl _, Int.le_refl _⟩
  | 17, v, h, a, b, c => by cases h; exact ⟨Int.le_refl _, Int.le_refl _⟩
  | 18, v, h, a, b, c => by cases h; exact ⟨Int.le_refl _, Int.le_refl _⟩
  | 19, v, h, a, b, c => by cases h; exact ⟨Int.le_refl _, Int.le_refl _⟩
  | n + 20, v, h, a, b, c => by cases h
/-- the same, and behind them the cells of the caller's slices -/
noncomputable def apR (rows : List (Int → Int)) (f : Nat) (a b c : Int) : Int := if f < 20 then apN f a b c else (rows.getD (f - 20) (fun _ => 0)) a
/-- an environment has the contracts' names -/
def NumA (ρ : Env) : Prop := ∀ f, f < 20 → ∀ a b c, ρ.a f a b c = apN f a b c
theorem numA_N {ρ : Env} (h : ρ.a = apN) : NumA ρ := fun f _ a b c => by rw [h]
theorem numA_R {ρ : Env} {rows : List (Int → Int)} (h : ρ.a = apR rows) : NumA ρ := fun f hf a b c => by rw [h]; unfold apR; rw [if_pos hf]
theorem arR_ok {rows : List (Int → Int)} {l : List (Int × Int)} (hr : ∀ (i : Nat) v, l[i]? = some v → ∀ a, v.1 ≤ (rows.getD i (fun _ => 0)) a ∧ (rows.getD i (fun _ => 0)) a ≤ v.2) : ∀ (f : Nat) v, (arN ++ l)[f]? = some v → ∀ a b c, v.1 ≤ apR rows f a b c ∧ apR rows f a b c ≤ v.2 := by
  intro f v h a b c
  unfold apR
  by_cases hf : f < 20
  · rw [if_pos hf]
    rw [List.getElem?_append_left (by simpa using hf)] at h
    exact arN_ok f v h a b c
  · rw [if_neg hf]
    rw [List.getElem?_append_right (by simp; omega)] at h
    exact hr (f - 20) v h a

/-- a contract's name, reckoned where its arguments are told -/
noncomputable def mkAp (f : Nat) (a b c : IE) : IE :=
  match a, b, c with
  | .lit x, .lit y, .lit z => if Nat.beq f 7 then .ap f a b c else if Nat.beq f 9 then .lit (sat (isqF 64 (x.toNat * 4294967296) : Nat)) else .lit (apN f x y z)
  | a, b, c => .ap f a b c
theorem mkAp_den {ρ : Env} (ha : NumA ρ) {f : Nat} (hf : f < 20) (a b c : IE) : (mkAp f a b c).den ρ = apN f (a.den ρ) (b.den ρ) (c.den ρ) := by
  unfold mkAp
  split
  · split
    · exact ha f hf _ _ _
    · split
      · rename_i h9
        obtain rfl : f = 9 := by simpa using h9
        simp only [IE.den, apN, fSqrt, isq_eq]
      · rfl
  · exact ha f hf _ _ _
abbrev InI (x : Int) : Prop := -9223372036854775808 ≤ x ∧ x ≤ 9223372036854775807
abbrev InU (x : Int) : Prop := 0 ≤ x ∧ x ≤ 18446744073709551615
noncomputable def con1 (f : FuncId) (k : Nat) : Con := ⟨f, [.i64], fun es => match es with | [a] => .int .i64 (mkAp k a (.lit 0) (.lit 0)) | _ => .any⟩
noncomputable def con2 (f : FuncId) (k : Nat) : Con := ⟨f, [.i64, .i64], fun es => match es with | [a, b] => .int .i64 (mkAp k a b (.lit 0)) | _ => .any⟩
noncomputable def con3 (f : FuncId) (k : Nat) : Con := ⟨f, [.i64, .i64, .i64], fun es => match es with | [a, b, c] => .int .i64 (mkAp k a b c) | _ => .any⟩
theorem con1_ok {ρ : Env} (ha : NumA ρ) {f : FuncId} {k : Nat} (hk : k < 20) (h : ∀ a, InI a → ∀ w, Calls Try.prog f #[.int .i64 a] w fun e w' => e = .returned (.int .i64 (apN k a 0 0)) ∧ Below w.heap.size w w') : (con1 f k).holds Try.prog ρ := by
  intro es hi φ w
  match es, hi with
  | [e], hi =>
    obtain ⟨h0, _⟩ := hi
    refine (h (e.den ρ) h0 w).mono ?_
    rintro e' w' ⟨rfl, hb⟩
    refine ⟨?_, hb⟩
    exact congrArg (fun z => Ending.returned (.int .i64 z)) (mkAp_den (f := k) ha hk e (.lit 0) (.lit 0)).symm
theorem con2_ok {ρ : Env} (ha : NumA ρ) {f : FuncId} {k : Nat} (hk : k < 20) (h : ∀ a b, InI a → InI b → ∀ w, Calls Try.prog f #[.int .i64 a, .int .i64 b] w fun e w' => e = .returned (.int .i64 (apN k a b 0)) ∧ Below w.heap.size w w') : (con2 f k).holds Try.prog ρ := by
  intro es hi φ w
  match es, hi with
  | [e, d], hi =>
    obtain ⟨h0, h1, _⟩ := hi
    refine (h (e.den ρ) (d.den ρ) h0 h1 w).mono ?_
    rintro e' w' ⟨rfl, hb⟩
    refine ⟨?_, hb⟩
    exact congrArg (fun z => Ending.returned (.int .i64 z)) (mkAp_den (f := k) ha hk e d (.lit 0)).symm
theorem con3_ok {ρ : Env} (ha : NumA ρ) {f : FuncId} {k : Nat} (hk : k < 20) (h : ∀ a b c, InI a → InI b → InI c → ∀ w, Calls Try.prog f #[.int .i64 a, .int .i64 b, .int .i64 c] w fun e w' => e = .returned (.int .i64 (apN k a b c)) ∧ Below w.heap.size w w') : (con3 f k).holds Try.prog ρ := by
  intro es hi φ w
  match es, hi with
  | [e, d, g], hi =>
    obtain ⟨h0, h1, h2, _⟩ := hi
    refine (h (e.den ρ) (d.den ρ) (g.den ρ) h0 h1 h2 w).mono ?_
    rintro e' w' ⟨rfl, hb⟩
    refine ⟨?_, hb⟩
    exact congrArg (fun z => Ending.returned (.int .i64 z)) (mkAp_den (f := k) ha hk e d g).symm

def addT : Tree :=
 (.node (.cmp .lss (.lit 0) (.var 0))
 (.node (.cmp .lss (.lit 0) (.var 1))
 (.node (.cmp .lss (.ar .add .i64 (.var 0) (.var 1)) (.lit 0))
 (.leaf (.int .i64 (.lit 9223372036854775807)))
 (.leaf (.int .i64 (.mx (.ar .add .i64 (.var 0) (.var 1)) (.lit (-9223372036854775807))))))
 (.leaf (.int .i64 (.mx (.pl .add (.var 0) (.var 1)) (.lit (-9223372036854775807))))))
 (.node (.cmp .lss (.var 0) (.lit 0))
 (.node (.cmp .lss (.var 1) (.lit 0))
 (.node (.cmp .lss (.ar .add .i64 (.var 0) (.var 1)) (.lit 0))
 (.leaf (.int .i64 (.mx (.ar .add .i64 (.var 0) (.var 1)) (.lit (-9223372036854775807)))))
 (.leaf (.int .i64 (.lit (-9223372036854775807)))))
 (.leaf (.int .i64 (.mx (.pl .add (.var 0) (.var 1)) (.lit (-9223372036854775807))))))
 (.leaf (.int .i64 (.mx (.pl .add (.var 0) (.var 1)) (.lit (-9223372036854775807)))))))
theorem add_any (a b : Int) (a0 : -9223372036854775808 ≤ a) (a1 : a ≤ 9223372036854775807) (b0 : -9223372036854775808 ≤ b) (b1 : b ≤ 9223372036854775807) (w : World) :
    Calls Try.prog 28 #[.int .i64 a, .int .i64 b] w fun e w' => e = .returned (.int .i64 (sat (a + b))) ∧ Below w.heap.size w w' := by
  have h := tree_sound (P := Try.prog) mixed (ρ := envOf [a, b]) (n := 400) (f := 28) (args := [.int .i64 (.var 0), .int .i64 (.var 1)]) addT (X := { pc := [], rg := [i64R, i64R] })
    (knows_env rfl ⟨⟨a0, a1⟩, ⟨b0, b1⟩, trivial⟩ (fun f v h => by cases h)) (knowsC_none rfl rfl rfl) (Tree.ok_of_check (by kernel_rfl)) (Tree.whole_live (by kernel_rfl)) w
  have e : addT.val (envOf [a, b]) = .int .i64 (sat (a + b)) := by
    simp only [addT, Tree.val, BE.den, cmpI, SV.den, IE.den, arI, plI, mxI, Bool.cond_decide, IntKind.wrap_i64, List.getD_cons_zero, List.getD_cons_succ]
    unfold sat
    repeat' split
    all_goals (congr 1; omega)
  rw [e] at h
  exact h
def logCon : Con := ⟨54, [.u64], fun es => match es with | [a] => .int .i64 (.ap 0 a (.lit 0) (.lit 0)) | _ => .any⟩
theorem log_in_ap {n : Int} (h1 : n ≤ 18446744073709551615) (b c : Int) : apN 0 n b c = wLog n := by
  have := wLog_in h1
  simp only [apN]; omega
theorem logCon_ok {ρ : Env} (ha : NumA ρ) : logCon.holds Try.prog ρ := by
  intro es h φ w
  match es, h with
  | [e], h =>
    obtain ⟨⟨h0, h1⟩, _⟩ := h
    have h0 : 0 ≤ e.den ρ := h0
    have h1 : e.den ρ ≤ 18446744073709551615 := h1
    refine (log_any (e.den ρ) h0 h1 w).mono ?_
    rintro e' w' ⟨rfl, hb⟩
    refine ⟨?_, hb⟩
    show _ = Ending.returned (.int .i64 (ρ.a 0 (e.den ρ) 0 0))
    rw [ha 0 (by decide), log_in_ap h1]
def shiftT : Tree :=
 (.node (.cmp .lss (.lit 0) (.var 1))
 (.node (.cmp .lss (.var 0) (.lit 0))
 (.node (.cmp .lss (.lit 0) (.ar .sub .u64 (.lit 0) (.wr .u64 (.var 0))))
 (.node (.cmp .lss (.pl .add (.ap 0 (.ar .sub .u64 (.lit 0) (.wr .u64 (.var 0))) (.lit 0) (.lit 0)) (.mn (.var 1) (.lit 64))) (.lit 63))
 (.leaf (.int .i64 (.ar .mul .i64 (.lit (-1)) (.mn (.ar .shl .u64 (.ar .sub .u64 (.lit 0) (.wr .u64 (.var 0))) (.mn (.var 1) (.lit 63))) (.lit 9223372036854775807)))))
 (.leaf (.int .i64 (.lit (-9223372036854775807)))))
 (.leaf (.int .i64 (.ar .mul .i64 (.lit (-1)) (.mn (.ar .shl .u64 (.ar .sub .u64 (.lit 0) (.wr .u64 (.var 0))) (.mn (.var 1) (.lit 63))) (.lit 9223372036854775807))))))
 (.node (.cmp .lss (.lit 0) (.var 0))
 (.node (.cmp .lss (.pl .add (.ap 0 (.var 0) (.lit 0) (.lit 0)) (.mn (.var 1) (.lit 64))) (.lit 63))
 (.leaf (.int .i64 (.pl .mul (.lit 1) (.mn (.ar .shl .u64 (.var 0) (.mn (.var 1) (.lit 63))) (.lit 9223372036854775807)))))
 (.leaf (.int .i64 (.lit 9223372036854775807))))
 (.leaf (.int .i64 (.pl .mul (.lit 1) (.mn (.ar .shl .u64 (.var 0) (.mn (.var 1) (.lit 63))) (.lit 9223372036854775807)))))))
 (.leaf (.int .i64 (.mx (.ar .shr .i64 (.var 0) (.mn (.lit 63) (.pl .sub (.lit 0) (.mx (.var 1) (.lit (-63)))))) (.lit (-9223372036854775807))))))
theorem shift_big {m b : Int} (hm : 0 < m) (hm1 : m ≤ 9223372036854775808) (hb : 0 < b) (h : ¬ (wLog m + mnI b 64 < 63)) : 9223372036854775808 ≤ m * 2 ^ (min b.toNat 64) := by
  have e : mnI b 64 = ((min b.toNat 64 : Nat) : Int) := by unfold mnI; split <;> omega
  rw [e, log_shift hm] at h
  omega
theorem shift_small {m b : Int} (hm : 0 < m) (hb : 0 < b) (h : wLog m + mnI b 64 < 63) : m * 2 ^ (min b.toNat 64) < 9223372036854775808 ∧ mnI (arI .shl .u64 m (mnI b 63)) 9223372036854775807 = m * 2 ^ (min b.toNat 64) := by
  have e : mnI b 64 = ((min b.toNat 64 : Nat) : Int) := by unfold mnI; split <;> omega
  have h0 : 0 ≤ wLog m := by unfold wLog; rw [if_neg (by omega)]; exact Int.natCast_nonneg _
  have hle : min b.toNat 64 ≤ 62 := by omega
  have h' := h
  rw [e, log_shift hm] at h'
  refine ⟨h', ?_⟩
  have e2 : min (mnI b 63).toNat 64 = min b.toNat 64 := by unfold mnI; split <;> omega
  show mnI (IntKind.u64.wrap (m * 2 ^ (min (mnI b 63).toNat 64))) _ = _
  have hp : 0 < m * 2 ^ (min b.toNat 64) := Int.mul_pos hm (Int.pow_pos (by decide))
  rw [e2, IntKind.wrap_u64]
  generalize m * 2 ^ (min b.toNat 64) = y at h' hp
  rw [Int.emod_eq_of_lt (by omega) (by omega)]
  unfold mnI; split <;> omega
theorem shiftT_val (a b : Int) (a0 : -9223372036854775808 ≤ a) (a1 : a ≤ 9223372036854775807) : shiftT.val (envOf [a, b] (ap := apN)) = .int .i64 (apN 3 a b 0) := by
  have hneg : a < 0 → arI .sub .u64 0 (IntKind.u64.wrap a) = -a := fun h => by
    show IntKind.u64.wrap (0 - IntKind.u64.wrap a) = -a
    rw [IntKind.wrap_u64, IntKind.wrap_u64]; omega
  simp only [shiftT, Tree.val, BE.den, cmpI, SV.den, IE.den, plI, mxI, Bool.cond_decide, List.getD_cons_zero, List.getD_cons_succ]
  by_cases hb : 0 < b
  · have hap : apN 3 a b 0 = sat (a * 2 ^ (min b.toNat 64)) := by simp only [apN]; rw [if_neg (by omega)]
    rw [if_pos hb, hap]
    by_cases ha : a < 0
    · rw [if_pos ha, hneg ha, if_pos (by omega), log_in_ap (by omega)]
      have hmul : a * 2 ^ (min b.toNat 64) = -(-a * 2 ^ (min b.toNat 64)) := by rw [Int.neg_mul, Int.neg_neg]
      by_cases hl : wLog (-a) + mnI b 64 < 63
      · obtain ⟨h1, h2⟩ := shift_small (m := -a) (by omega) hb hl
        have hp : 0 < -a * 2 ^ (min b.toNat 64) := Int.mul_pos (by omega) (Int.pow_pos (by decide))
        rw [if_pos hl, h2, hmul]
        show Value.int .i64 (IntKind.i64.wrap (-1 * _)) = _
        generalize -a * 2 ^ (min b.toNat 64) = y at h1 hp
        rw [IntKind.wrap_i64]
        unfold sat; congr 1; omega
      · have h1 := shift_big (m := -a) (by omega) (by omega) hb hl
        rw [if_neg hl, hmul]
        generalize -a * 2 ^ (min b.toNat 64) = y at h1
        unfold sat; congr 1; omega
    · rw [if_neg ha]
      by_cases ha' : 0 < a
      · rw [if_pos ha', log_in_ap (by omega)]
        by_cases hl : wLog a + mnI b 64 < 63
        · obtain ⟨h1, h2⟩ := shift_small (m := a) ha' hb hl
          have hp : 0 < a * 2 ^ (min b.toNat 64) := Int.mul_pos ha' (Int.pow_pos (by decide))
          rw [if_pos hl, h2]
          generalize a * 2 ^ (min b.toNat 64) = y at h1 hp
          unfold sat; congr 1; omega
        · have h1 := shift_big (m := a) ha' (by omega) hb hl
          rw [if_neg hl]
          generalize a * 2 ^ (min b.toNat 64) = y at h1
          unfold sat; congr 1; omega
      · obtain rfl : a = 0 := by omega
        rw [if_neg ha']
        have : arI .shl .u64 0 (mnI b 63) = 0 := by
          show IntKind.u64.wrap (0 * _) = 0
          rw [Int.zero_mul]; rfl
        rw [this, Int.zero_mul]
        rfl
  · have hap : apN 3 a b 0 = sat (a / 2 ^ (min 63 (-b).toNat)) := by simp only [apN]; rw [if_pos (by omega)]
    rw [if_neg hb, hap, ← shift_down a0 a1 _ (Int.pow_pos (by decide))]
    have e : min (mnI 63 (0 - (if (-63 : Int) > b then -63 else b))).toNat 64 = min 63 (-b).toNat := by unfold mnI; split <;> split <;> omega
    have e3 : arI .shr .i64 a (mnI 63 (0 - (if (-63 : Int) > b then -63 else b))) = a.fdiv (2 ^ (min 63 (-b).toNat)) := by
      show a.fdiv (2 ^ (min (mnI 63 (0 - (if (-63 : Int) > b then -63 else b))).toNat 64)) = _
      rw [e]
    rw [e3]
    congr 1
    split <;> omega
theorem shift_any (a b : Int) (a0 : -9223372036854775808 ≤ a) (a1 : a ≤ 9223372036854775807) (b0 : -9223372036854775808 ≤ b) (b1 : b ≤ 9223372036854775807) (w : World) :
    Calls Try.prog 38 #[.int .i64 a, .int .i64 b] w fun e w' => e = .returned (.int .i64 (apN 3 a b 0)) ∧ Below w.heap.size w w' := by
  have h := tree_sound (P := Try.prog) mixed (ρ := envOf [a, b] (ap := apN)) (n := 400) (f := 38) (args := [.int .i64 (.var 0), .int .i64 (.var 1)]) shiftT (X := { pc := [], rg := [i64R, i64R], ar := arN, ct := conCt [i64R, i64R] arN [logCon] })
    (knows_env rfl ⟨⟨a0, a1⟩, ⟨b0, b1⟩, trivial⟩ arN_ok) ⟨fun c hc => (by cases hc), fun pc hpc f vs v h _ φ w _ => conCt_ok (AllIn.get0 (f := (envOf [a, b] (ap := apN)).i) (vs := [i64R, i64R]) ⟨⟨a0, a1⟩, ⟨b0, b1⟩, trivial⟩) arN_ok (fun c hc => by rw [List.mem_singleton.1 hc]; exact logCon_ok (numA_N rfl)) hpc h φ w, fun f p u L h => (by cases h)⟩
    (Tree.ok_of_check (by kernel_rfl)) (Tree.whole_live (by kernel_rfl)) w
  rw [shiftT_val a b a0 a1] at h
  exact h
end Go.Proofs.Ythhipnhnpjhaaaa
