/- Several texts in one. -/
import Derived.Test.YthhipnhnpjhaaaaM29
/- Law 14: Put, as a contract. -/
namespace Go.Proofs.Ythhipnhnpjhaaaa
open Go Go.RowKit Ev
set_option linter.unusedVariables false
set_option linter.unusedSimpArgs false
set_option maxRecDepth 100000
set_option maxHeartbeats 0

def filS (e : Nat → IE) (em : IE) (b : BE) (eu : Nat → IE) : List SV := (List.range 40).map (fun k => .int .i64 (e k)) ++ [.int .i64 em, .bool b, .int .i64 (eu 0), .int .i64 (eu 1), .int .i64 (eu 2), .int .i64 (eu 3)]
def samS (s : Nat → IE) : List SV := (List.range 5).map fun k => .int .i64 (s k)
theorem filS_den {ρ : Env} {φ : Nat → Nat} {e : Nat → IE} {em : IE} {b : BE} {eu : Nat → IE} : SV.denL ρ φ (filS e em b eu) = filV (fun k => (e k).den ρ) (em.den ρ) (b.den ρ) (fun k => (eu k).den ρ) := by
  unfold filS filV
  rw [denL_map, List.map_append, List.map_map]
  rfl
theorem samS_den {ρ : Env} {φ : Nat → Nat} {s : Nat → IE} : SV.denL ρ φ (samS s) = (List.range 5).map fun k => .int .i64 ((s k).den ρ) := by
  unfold samS
  rw [denL_map, List.map_map]
  rfl
theorem filV_congr {c d : Nat → Int} {m n : Int} {had : Bool} {u v : Nat → Int} (h : ∀ k, k < 40 → c k = d k) (hm : m = n) (hu : ∀ k, k < 4 → u k = v k) : filV c m had u = filV d n had v := by
  unfold filV
  rw [map_range_congr (fun k hk => congrArg (Value.int .i64) (h k hk)), hm, hu 0 (by omega), hu 1 (by omega), hu 2 (by omega), hu 3 (by omega)]
def putA (m : Nat) : List SV := [.agg (filS (fun k => if k < 5 * m then .var k else .lit 0) (.lit m) (.var 0) (fun k => .var (40 + k))), .agg (samS fun k => .var (44 + k))]
def putR (m : Nat) : SV := .agg (filS (fun k => if k < 5 then .var (44 + k) else if k - 5 < 5 * m then .var (k - 5) else .lit 0) (.lit ((min (m + 1) 8 : Nat) : Int)) (.var 0) (fun k => .var (40 + k)))
theorem put_k : ∀ m, m ≤ 8 → (Tree.leaf (putR m)).check Try.prog { pc := [] } 1000 15 (putA m) = true
  | 0, _ => by kernel_rfl
  | 1, _ => by kernel_rfl
  | 2, _ => by kernel_rfl
  | 3, _ => by kernel_rfl
  | 4, _ => by kernel_rfl
  | 5, _ => by kernel_rfl
  | 6, _ => by kernel_rfl
  | 7, _ => by kernel_rfl
  | 8, _ => by kernel_rfl
  | n + 9, h => absurd h (by omega)
theorem two_lists {a b c d : List Value} (h : a = c) (k : b = d) : #[Value.agg a.toArray, Value.agg b.toArray] = #[Value.agg c.toArray, Value.agg d.toArray] := by rw [h, k]
theorem put_any {c : Nat → Int} {m : Nat} {had : Bool} {u s : Nat → Int} (hm : m ≤ 8) (h0 : ∀ k, 5 * m ≤ k → k < 40 → c k = 0) (w : World) :
    Calls Try.prog 15 #[.agg (filV c m had u).toArray, .agg ((List.range 5).map fun k => .int .i64 (s k)).toArray] w fun e w' => e = .returned (.agg (filV (fun k => if k < 5 then s k else c (k - 5)) ((min (m + 1) 8 : Nat) : Int) had u).toArray) ∧ Below w.heap.size w w' := by
  have h := tree_soundX (P := Try.prog) mixed (ρ := { i := fun n => if n < 40 then c n else if n < 44 then u (n - 40) else s (n - 44), b := fun n => had }) (.leaf (putR m)) (X := { pc := [] }) (knows_env rfl trivial (fun f v h => by cases h)) (knowsC_none rfl rfl rfl) (Tree.ok_of_check (put_k m hm)) rfl w (ExtIn.none fun _ => rfl)
  have e1 : (SV.denL { i := fun n => if n < 40 then c n else if n < 44 then u (n - 40) else s (n - 44), b := fun n => had } id (putA m)).toArray = #[.agg (filV c m had u).toArray, .agg ((List.range 5).map fun k => .int .i64 (s k)).toArray] := by
    simp only [putA, SV.denL, SV.den, filS_den, samS_den]
    refine two_lists (filV_congr (fun k hk => ?_) rfl (fun k hk => ?_)) (map_range_congr (fun k hk => ?_))
    rotate_left 2
    · show Value.int .i64 (if 44 + k < 40 then _ else if 44 + k < 44 then _ else s (44 + k - 44)) = _
      rw [if_neg (by omega), if_neg (by omega), Nat.add_sub_cancel_left]
    · show (IE.den _ (if k < 5 * m then .var k else .lit 0)) = _
      split
      · show (if k < 40 then c k else _) = _
        rw [if_pos hk]
      · exact (h0 k (by omega) hk).symm
    · show (if 40 + k < 40 then _ else if 40 + k < 44 then u (40 + k - 40) else _) = _
      rw [if_neg (by omega), if_pos (by omega), Nat.add_sub_cancel_left]
  have e2 : (Tree.leaf (putR m)).val { i := fun n => if n < 40 then c n else if n < 44 then u (n - 40) else s (n - 44), b := fun n => had } = .agg (filV (fun k => if k < 5 then s k else c (k - 5)) ((min (m + 1) 8 : Nat) : Int) had u).toArray := by
    simp only [Tree.val, putR, SV.den, filS_den]
    refine congrArg (fun (a : List Value) => Value.agg a.toArray) (filV_congr (fun k hk => ?_) rfl (fun k hk => ?_))
    · show (IE.den _ (if k < 5 then .var (44 + k) else if k - 5 < 5 * m then .var (k - 5) else .lit 0)) = if k < 5 then s k else c (k - 5)
      split
      · show (if 44 + k < 40 then _ else if 44 + k < 44 then _ else s (44 + k - 44)) = _
        rw [if_neg (by omega), if_neg (by omega), Nat.add_sub_cancel_left]
      · split
        · show (if k - 5 < 40 then c (k - 5) else _) = _
          rw [if_pos (by omega)]
        · exact (h0 (k - 5) (by omega) (by omega)).symm
    · show (if 40 + k < 40 then _ else if 40 + k < 44 then u (40 + k - 40) else _) = _
      rw [if_neg (by omega), if_pos (by omega), Nat.add_sub_cancel_left]
  rw [e1, e2] at h
  exact h
theorem put_known {ρ : Env} {e e' : Nat → IE} {em em' : IE} {b : BE} {eu s : Nat → IE} {m : Nat} (hm : m ≤ 8) (hem : em.den ρ = m) (h0 : ∀ k, 5 * m ≤ k → k < 40 → (e k).den ρ = 0)
    (he' : ∀ k, k < 40 → (e' k).den ρ = if k < 5 then (s k).den ρ else (e (k - 5)).den ρ) (hem' : em'.den ρ = ((min (m + 1) 8 : Nat) : Int)) : Known Try.prog ρ (15, [.agg (filS e em b eu), .agg (samS s)], .agg (filS e' em' b eu)) := by
  intro φ w _
  have h := put_any (c := fun k => (e k).den ρ) (had := b.den ρ) (u := fun k => (eu k).den ρ) (s := fun k => (s k).den ρ) hm h0 w
  have e1 : (SV.denL ρ φ [.agg (filS e em b eu), .agg (samS s)]).toArray = #[.agg (filV (fun k => (e k).den ρ) m (b.den ρ) fun k => (eu k).den ρ).toArray, .agg ((List.range 5).map fun k => .int .i64 ((s k).den ρ)).toArray] := by
    simp only [SV.denL, SV.den, filS_den, samS_den, hem]
  have e2 : (SV.agg (filS e' em' b eu)).den ρ φ = .agg (filV (fun k => if k < 5 then (s k).den ρ else (e (k - 5)).den ρ) ((min (m + 1) 8 : Nat) : Int) (b.den ρ) fun k => (eu k).den ρ).toArray := by
    simp only [SV.den, filS_den]
    rw [filV_congr he' hem' (fun k hk => rfl)]
  show Calls _ _ (SV.denL ρ φ [.agg (filS e em b eu), .agg (samS s)]).toArray w _
  rw [e1]
  refine h.mono ?_
  rintro e'' w' ⟨rfl, hb⟩
  exact ⟨congrArg Ending.returned e2.symm, hb⟩
end Go.Proofs.Ythhipnhnpjhaaaa
/- Law 14: FilterEight: the loop, the walk. -/
namespace Go.Proofs.Ythhipnhnpjhaaaa
open Go Go.RowKit Ev
set_option linter.unusedVariables false
set_option linter.unusedSimpArgs false
set_option maxRecDepth 100000
set_option maxHeartbeats 0

/-- a known context by its conditions too -/
theorem knows_pc {ρ : Env} {X : Ctx} (hpc : ∀ c ∈ X.pc, c.1.den ρ = c.2) (hr : AllIn ρ.i X.rg 0) (ha : ∀ (f : Nat) v, X.ar[f]? = some v → ∀ a b c, v.1 ≤ ρ.a f a b c ∧ ρ.a f a b c ≤ v.2) (hxs : ∀ (j : Nat) d, X.xs[j]? = some d → XOk ρ d (ρ.x j) := by intro _ _ h; cases h) (hnm : ∀ p ∈ X.nm, p.1.den ρ = p.2.den ρ := by intro _ h; cases h) (hss : X.ss = [] := by rfl) (hnb : X.nb = [] := by rfl) : Knows ρ X :=
  ⟨hpc, fun i v h => (by have := hr.get i v h; rwa [Nat.zero_add] at this), ha, hxs, hnm, fun j d h => (by rw [hss] at h; simp at h), fun p h => (by rw [hnb] at h; cases h)⟩
abbrev sKs : List EK := [.int .i64, .int .i64, .int .i64, .int .i64, .int .i64]
abbrev sXs : List XD := [⟨0, 20, sKs⟩]
abbrev sAr : List (Int × Int) := arN ++ [i64I, i64I, i64I, i64I, i64I]
abbrev feF : FuncId := 6
abbrev feP : List Nat := [0, 1, 0, 1, 1, 1]
def feU (k : Nat) : IE := if k = 0 then .var 1 else .lit 0
def feTm (t8 : SV) : List SV := [.xs 0, .bool (.var 0), .int .i64 (.var 1), .any, .any, .any, .bool (.lit false), .ptr 1048588 0, t8] ++ List.replicate 63 .any
def feBl (e : Nat → IE) (em : IE) : List (Nat × Blk) := [(1048588, ⟨29, filS e em (.var 0) feU⟩)]
def feL : LoopSum := ⟨feTm (.int .i64 (.lit 0)), feBl (fun _ => .lit 0) (.lit 0), .exit 0, feTm .any, feBl (fun k => .var (3 + k)) (.var 2)⟩
def feH : St := ⟨Tm.ofL (feTm (.int .i64 (.var 43))), feBl (fun k => .var (45 + k)) (.var 44)⟩
def feE : List IE := vrs 43 ++ (.lit 0 :: .lit 0 :: (List.range 40).map fun _ => .lit 0)
def feRl : List (Int × Int) := (0, 200) :: i64I :: (0, 8) :: List.replicate 40 i64I
def feR : List (Int × Int) := feRl ++ ((0, 200) :: (0, 8) :: List.replicate 40 i64I)
def feM : IE := .mn (.pl .add (.var 44) (.lit 1)) (.lit 8)
def feN (k : Nat) : IE := if k < 5 then .ap (20 + k) (.var 43) (.lit 0) (.lit 0) else .var (45 + (k - 5))
def fePut : FuncId × List SV × SV := (15, [.agg (filS (fun k => .var (45 + k)) (.var 44) (.var 0) feU), .agg (samS fun k => .ap (20 + k) (.var 43) (.lit 0) (.lit 0))], .agg (filS feN feM (.var 0) feU))
def feFact (k c : Nat) : BE × Bool := (.cmp .eql (.var (45 + (5 * k + c))) (.ap (20 + c) (.pl .sub (.var 43) (.lit ((k + 1 : Nat) : Int))) (.lit 0) (.lit 0)), true)
def feX : Ctx := { pc := (List.range 7).flatMap fun k => (List.range 5).map fun c => feFact k c, cr := [fePut], rg := feR, ar := sAr, xs := sXs, nm := [(.pl .sub (.var 43) (.lit 0), .var 43)] }
def feGo : RT := .go (vrs 43 ++ (.pl .add (.var 43) (.lit 1) :: feM :: (List.range 40).map feN)) [.var 0]
def feSt : RT := .stop ((List.range 43).map fun n => .var (if n < 2 then n else if n = 2 then 44 else 45 + (n - 3))) [.var 0]
/-- things behind the first ones are nought -/
def feZ : List Nat → RT
  | [] => feGo
  | k :: ks => .node (.cmp .eql (.var (45 + k)) (.lit 0)) (feZ ks) .dead
def feC : Nat → Nat → RT
  | _, 0 => feGo
  | k, n + 1 => .node (.cmp .lss (.var 43) (.lit (k : Int))) (feZ (List.range' (5 * (k - 1)) (35 - 5 * (k - 1)))) (.node (.cmp .lss (.pl .sub (.var 43) (.lit (k : Int))) (.lit 0)) .dead (.node (.cmp .lss (.pl .sub (.var 43) (.lit (k : Int))) (.var 0)) (feC (k + 1) n) .dead))
def feT : RT := .node (.cmp .lss (.var 43) (.var 0)) (feC 1 7) feSt
theorem fe_B : lpB Try.prog feX 3000 feF feP 3 feL feH feT feE [.var 0] = true := by kernel_rfl
end Go.Proofs.Ythhipnhnpjhaaaa
/- Law 14: FilterEight: what holds at the loop's head; the walk. -/
namespace Go.Proofs.Ythhipnhnpjhaaaa
open Go Go.RowKit Ev
set_option linter.unusedVariables false
set_option linter.unusedSimpArgs false
set_option maxRecDepth 100000
set_option maxHeartbeats 0

/-- a cell of the caller's samples -/
def sRow (rows : List (Int → Int)) (c : Nat) (a : Int) : Int := (rows.getD c (fun _ => 0)) a
/-- the filter's cells, ahead of the i-th sample -/
def sWin (rows : List (Int → Int)) (i : Nat) (k : Nat) : Int := sRow rows (k % 5) ((i : Int) - 1 - ((k / 5 : Nat) : Int))
theorem apR_row {rows : List (Int → Int)} {c : Nat} {a : Int} : apR rows (20 + c) a 0 0 = sRow rows c a := by
  unfold apR sRow
  rw [if_neg (by omega), Nat.add_sub_cancel_left]
theorem sRow_neg {W : World} {v : Value} {B : Ext} {rows : List (Int → Int)} (hB : XAny sKs W v B rows) {c : Nat} {a : Int} (ha : a < 0) : sRow rows c a = 0 := hB.ng c a ha
theorem sRow_in {W : World} {v : Value} {B : Ext} {rows : List (Int → Int)} (hB : XAny sKs W v B rows) {c : Nat} (hc : c < 5) (a : Int) : InI (sRow rows c a) := by
  have := hB.rg c i64I (by
    have : (sKs.map ekR)[c]? = some i64I := by
      match c, hc with
      | 0, _ => rfl
      | 1, _ => rfl
      | 2, _ => rfl
      | 3, _ => rfl
      | 4, _ => rfl
    exact this) a
  exact this
theorem sWin_in {W : World} {v : Value} {B : Ext} {rows : List (Int → Int)} (hB : XAny sKs W v B rows) {i k : Nat} : InI (sWin rows i k) := sRow_in hB (Nat.mod_lt _ (by decide)) _
theorem sWin_zero {W : World} {v : Value} {B : Ext} {rows : List (Int → Int)} (hB : XAny sKs W v B rows) {i k : Nat} (h : i ≤ k / 5) : sWin rows i k = 0 := sRow_neg hB (by omega)
theorem sWin_next {rows : List (Int → Int)} {i k : Nat} : sWin rows (i + 1) k = if k < 5 then sRow rows k (i : Int) else sWin rows i (k - 5) := by
  unfold sWin
  split
  · rw [show k % 5 = k by omega, show k / 5 = 0 by omega]
    congr 1; omega
  · rw [show (k - 5) % 5 = k % 5 by omega]
    congr 1; omega
theorem sArIn {W : World} {v : Value} {B : Ext} {rows : List (Int → Int)} (hB : XAny sKs W v B rows) {ρ : Env} (ha : ρ.a = apR rows) : ArIn ρ sAr := arIn_R ha hB.rg

def feI (len : Nat) (used : Int) (rows : List (Int → Int)) (n : Nat) : Int := if n = 0 then (len : Int) else if n = 1 then used else if n = 2 then ((min len 8 : Nat) : Int) else sWin rows len (n - 3)
noncomputable def feEv (B : Ext) (used : Int) (had : Bool) (rows : List (Int → Int)) : Env := { i := feI B.len used rows, b := fun n => if n = 0 then had else false, a := apR rows, x := fun n => [some B].getD n none }
section
variable {W : World} {v : Value} {B : Ext} {rows : List (Int → Int)} {used : Int} {had : Bool}
theorem fe_in (hB : XAny sKs W v B rows) (hl : B.len ≤ 200) (hu : InI used) : AllIn (feEv B used had rows).i feRl 0 := by
  refine ⟨?_, hu, ?_, AllIn.rep fun k hk => ?_⟩
  · show (0 : Int) ≤ (B.len : Nat) ∧ ((B.len : Nat) : Int) ≤ 200
    omega
  · show (0 : Int) ≤ ((min B.len 8 : Nat) : Int) ∧ ((min B.len 8 : Nat) : Int) ≤ 8
    omega
  · show _ ≤ feI B.len used rows (0 + 1 + 1 + 1 + k) ∧ feI B.len used rows (0 + 1 + 1 + 1 + k) ≤ _
    rw [show 0 + 1 + 1 + 1 + k = 3 + k by omega]
    unfold feI
    rw [if_neg (by omega), if_neg (by omega), if_neg (by omega)]
    exact sWin_in hB
theorem feZ_next {ρ : Env} : ∀ {l : List Nat}, (∀ k ∈ l, ρ.i (45 + k) = 0) → (feZ l).next ρ = feGo.next ρ
  | [], _ => rfl
  | k :: l, h => by
    have e : (feZ (k :: l)).next ρ = cond (ρ.i (45 + k) == 0) ((feZ l).next ρ) none := rfl
    rw [e, h k (by simp), feZ_next fun x hx => h x (by simp [hx])]
    rfl
theorem feC_next {ρ : Env} {i len : Nat} (hi : ρ.i 43 = i) (hn : ρ.i 0 = len) (hlt : i < len) (hz : ∀ k, k < 35 → i ≤ k / 5 → ρ.i (45 + k) = 0) : ∀ {n k : Nat}, k + n = 8 → 1 ≤ k → k ≤ i + 1 → (feC k n).next ρ = feGo.next ρ
  | 0, k, _, _, _ => rfl
  | n + 1, k, h1, h2, h3 => by
    have e : (feC k (n + 1)).next ρ = cond (decide (ρ.i 43 < (k : Int))) ((feZ (List.range' (5 * (k - 1)) (35 - 5 * (k - 1)))).next ρ) (cond (decide (ρ.i 43 - (k : Int) < 0)) none (cond (decide (ρ.i 43 - (k : Int) < ρ.i 0)) ((feC (k + 1) n).next ρ) none)) := rfl
    rw [e, hi, hn]
    by_cases hk : i < k
    · rw [decide_eq_true (by omega), cond_true]
      refine feZ_next fun x hx => ?_
      have := List.mem_range'_1.1 hx
      exact hz x (by omega) (by omega)
    · rw [decide_eq_false (by omega), cond_false, decide_eq_false (by omega), cond_false, decide_eq_true (by omega), cond_true]
      exact feC_next hi hn hlt hz (by omega) (by omega) (by omega)
theorem fe_loop (hB : XAny sKs W v B rows) (hl : B.len ≤ 200) (hu : InI used) {c : Code} (hc : codeAt Try.prog feF feP = .loop c) (E : List (Nat × Nat)) : LoopGoes Try.prog (feEv B used had rows) E feL c := by
  have hin := fe_in (had := had) hB hl hu
  refine rt_lpg mixed fe_B hc (ρ := feEv B used had rows) (fun n is bs => ∃ i : Nat, n + i = B.len ∧ is = (List.range 43).map (feEv B used had rows).i ++ ((i : Int) :: ((min i 8 : Nat) : Int) :: (List.range 40).map fun k => sWin rows i k) ∧ bs = [had]) ?_ ?_ ?_ ?_
  · rintro n is bs ⟨i, h1, rfl, rfl⟩
    generalize hρ : (feEv B used had rows).on ((List.range 43).map (feEv B used had rows).i ++ ((i : Int) :: ((min i 8 : Nat) : Int) :: (List.range 40).map fun k => sWin rows i k)) [had] = ρ'
    have lo : ∀ k, k < 43 → ρ'.i k = (feEv B used had rows).i k := fun k hk => by rw [← hρ]; exact on_lo hk
    have hi : ρ'.i 43 = (i : Nat) := by rw [← hρ]; exact on_hi 0
    have hm : ρ'.i 44 = ((min i 8 : Nat) : Int) := by rw [← hρ]; exact on_hi 1
    have hv : ∀ k, k < 40 → ρ'.i (45 + k) = sWin rows i k := fun k hk => by rw [← hρ, show 45 + k = 43 + (k + 2) by omega, on_hi, List.getD_cons_succ, List.getD_cons_succ, getD_map hk]
    have ha : ρ'.a = apR rows := by rw [← hρ]; rfl
    have hx : ρ'.x = fun n => [some B].getD n none := by rw [← hρ]; rfl
    refine knows_pc (fun c hc => ?_) ?_ (sArIn hB ha) (xs_one (xok_any hB ha (n := 0) (by rw [lo 0 (by omega)]; rfl)) (by rw [hx]; rfl)) (fun p hp => ?_)
    · obtain ⟨k, hk, hc⟩ := List.mem_flatMap.1 hc
      obtain ⟨x, hx, rfl⟩ := List.mem_map.1 hc
      have hk := List.mem_range.1 hk
      have hx := List.mem_range.1 hx
      show (ρ'.i (45 + (5 * k + x)) == ρ'.a (20 + x) (ρ'.i 43 - ((k + 1 : Nat) : Int)) 0 0) = true
      rw [ha, apR_row, hv _ (by omega), hi]
      unfold sWin
      rw [show (5 * k + x) % 5 = x by omega, show (5 * k + x) / 5 = k by omega, show ((i : Int) - 1 - (k : Int)) = (i : Int) - ((k + 1 : Nat) : Int) by omega]
      exact beq_self_eq_true _
    · show AllIn ρ'.i feR 0
      unfold feR
      refine AllIn.app (AllIn.congr (fun k hk => by rw [Nat.zero_add]; exact lo k (by simp [feRl] at hk; omega)) hin) ?_
      refine ⟨?_, ?_, AllIn.rep fun k hk => ?_⟩
      · show (0 : Int) ≤ ρ'.i 43 ∧ ρ'.i 43 ≤ 200
        rw [hi]; omega
      · show (0 : Int) ≤ ρ'.i 44 ∧ ρ'.i 44 ≤ 8
        rw [hm]; omega
      · show _ ≤ ρ'.i (45 + k) ∧ ρ'.i (45 + k) ≤ _
        rw [hv k hk]; exact sWin_in hB
    · obtain rfl := List.mem_singleton.1 hp
      show ρ'.i 43 - 0 = ρ'.i 43
      omega
  · rintro n is bs ⟨i, h1, rfl, rfl⟩ E
    generalize hρ : (feEv B used had rows).on ((List.range 43).map (feEv B used had rows).i ++ ((i : Int) :: ((min i 8 : Nat) : Int) :: (List.range 40).map fun k => sWin rows i k)) [had] = ρ'
    have hi : ρ'.i 43 = (i : Nat) := by rw [← hρ]; exact on_hi 0
    have hm : ρ'.i 44 = ((min i 8 : Nat) : Int) := by rw [← hρ]; exact on_hi 1
    have hv : ∀ k, k < 40 → ρ'.i (45 + k) = sWin rows i k := fun k hk => by rw [← hρ, show 45 + k = 43 + (k + 2) by omega, on_hi, List.getD_cons_succ, List.getD_cons_succ, getD_map hk]
    have ha : ρ'.a = apR rows := by rw [← hρ]; rfl
    refine ⟨fun q hq => ?_, fun pc _ f vs v h => (by cases h), fun f p u L h => (by cases h)⟩
    obtain rfl := List.mem_singleton.1 hq
    refine put_known (m := min i 8) (by omega) hm (fun k h1 h2 => ?_) (fun k hk => ?_) ?_
    · show ρ'.i (45 + k) = 0
      rw [hv k h2]
      exact sWin_zero hB (by omega)
    · show (feN k).den ρ' = if k < 5 then ρ'.a (20 + k) (ρ'.i 43) 0 0 else ρ'.i (45 + (k - 5))
      unfold feN
      split <;> rfl
    · show mnI (ρ'.i 44 + 1) 8 = _
      rw [hm]
      unfold mnI
      split <;> omega
  · refine ⟨B.len, _, _, ⟨0, rfl, rfl, rfl⟩, ?_, List.prefix_rfl⟩
    unfold feE
    rw [dens_app, dens_vrs]
    refine pre_of_eq ?_
    congr 1
    show (0 : Int) :: 0 :: dens _ _ = _
    rw [dens_map]
    refine congrArg _ (congrArg _ (map_range_congr fun k hk => ?_))
    exact (sWin_zero hB (Nat.zero_le _)).symm
  · rintro n is bs ⟨i, h1, rfl, rfl⟩
    generalize hρ : (feEv B used had rows).on ((List.range 43).map (feEv B used had rows).i ++ ((i : Int) :: ((min i 8 : Nat) : Int) :: (List.range 40).map fun k => sWin rows i k)) [had] = ρ'
    have lo : ∀ k, k < 43 → ρ'.i k = (feEv B used had rows).i k := fun k hk => by rw [← hρ]; exact on_lo hk
    have hi : ρ'.i 43 = (i : Nat) := by rw [← hρ]; exact on_hi 0
    have hm : ρ'.i 44 = ((min i 8 : Nat) : Int) := by rw [← hρ]; exact on_hi 1
    have hv : ∀ k, k < 40 → ρ'.i (45 + k) = sWin rows i k := fun k hk => by rw [← hρ, show 45 + k = 43 + (k + 2) by omega, on_hi, List.getD_cons_succ, List.getD_cons_succ, getD_map hk]
    have ha : ρ'.a = apR rows := by rw [← hρ]; rfl
    have hn : ρ'.i 0 = (B.len : Nat) := by rw [lo 0 (by omega)]; rfl
    have hbs : bdens ρ' [.var 0] = [had] := by rw [← hρ]; rfl
    by_cases hlt : i < B.len
    · left
      refine ⟨(vrs 43 ++ (IE.pl .add (.var 43) (.lit 1) :: feM :: (List.range 40).map feN)).map (IE.den ρ'), [had], n - 1, _, _, ?_, by omega, ⟨i + 1, by omega, rfl, rfl⟩, ?_, List.prefix_rfl⟩
      · have e : feT.next ρ' = cond (decide (ρ'.i 43 < ρ'.i 0)) ((feC 1 7).next ρ') none := rfl
        rw [e, hi, hn, decide_eq_true (by omega), cond_true, feC_next hi hn hlt (fun k h1 h2 => by rw [hv k (by omega)]; exact sWin_zero hB h2) (by omega) (by omega) (by omega)]
        show some (dens ρ' _, bdens ρ' [.var 0]) = _
        rw [hbs]
        rfl
      · refine (pre_of_eq (dens_app (ρ := ρ') (vrs 43) _)).trans ?_
        rw [dens_vrs, map_range_congr (fun k hk => lo k hk)]
        refine pre_of_eq ?_
        congr 1
        show (ρ'.i 43 + 1) :: mnI (ρ'.i 44 + 1) 8 :: dens ρ' _ = _
        rw [hi, hm, dens_map]
        refine congr (congrArg _ (by omega)) (congr (congrArg _ ?_) (map_range_congr fun k hk => ?_))
        · unfold mnI
          split <;> omega
        · rw [sWin_next]
          unfold feN
          split
          · show ρ'.a (20 + k) (ρ'.i 43) 0 0 = _
            rw [ha, apR_row, hi]
          · show ρ'.i (45 + (k - 5)) = _
            rw [hv _ (by omega)]
    · right
      obtain rfl : i = B.len := by omega
      have e : feT.out ρ' = cond (decide (ρ'.i 43 < ρ'.i 0)) ((feC 1 7).out ρ') (feSt.out ρ') := rfl
      rw [e, hi, hn, decide_eq_false (by omega), cond_false]
      refine ⟨_, _, rfl, ?_⟩
      rw [dens_map, hbs]
      refine has_fun (fun k hk => ?_) (fun i x h => by cases i with | zero => (simp at h; exact h) | succ i => simp at h)
      show feI B.len used rows k = ρ'.i _
      split
      · rw [lo k hk]; rfl
      · split
        · rename_i h2
          subst h2
          rw [hm]; rfl
        · rw [hv _ (by omega)]
          unfold feI
          rw [if_neg (by omega), if_neg (by omega), if_neg (by omega)]
end
def feLp (f : FuncId) (p : List Nat) (_ : Nat) : Option LoopSum := if Nat.beq f feF && decide (p = feP) then some feL else none
def feW : Tree :=
(.node (.cmp .eql (.var 2) (.mn (.var 0) (.lit 8)))
 (.node (.var 0)
 (.leaf (.bool (.cmp .eql (.var 1) (.var 1))))
 (.leaf (.bool (.cmp .eql (.var 1) (.var 1)))))
 (.leaf (.bool (.lit false))))
theorem filterEight_walk {v : Value} {had : Bool} {used : Int} {W : World} (hv : IsXs sKs W v) (hu : InI used) :
    Calls Try.prog feF #[v, .bool had, .int .i64 used] W fun e w' => e = .returned (.bool true) ∧ Below W.heap.size W w' := by
  obtain ⟨B, rows, hB⟩ := hv.any
  have hval := hB.val
  have hle := hB.le
  by_cases hl : B.len ≤ 200
  · have h := law_cs (ρ := feEv B used had rows) (rg := feRl) (ar := sAr) (args := [.xs 0, .bool (.var 0), .int .i64 (.var 1)]) (fe_in hB hl hu) (sArIn hB rfl) (cs := []) (fun c hc => by cases hc) (cr := k14) k14_ok (lp := feLp)
      (fun f p u L h c hc _ => by
        unfold feLp at h
        split at h
        · rename_i hcc
          simp only [Bool.and_eq_true, Nat.beq_eq, decide_eq_true_eq] at hcc
          obtain ⟨rfl, rfl⟩ := hcc
          cases h
          exact fe_loop hB hl hu hc []
        · cases h) (xs := sXs) (xs_one (xok_any hB rfl rfl) rfl) (nm := []) (fun p hp => by cases hp) (nz := false) feW (n := 3000) (f := feF) (Tree.ok_of_check (by kernel_rfl)) ?_ W (ext_any hB rfl)
    · rw [hval]; exact h
    · show cond (((min B.len 8 : Nat) : Int) == mnI ((B.len : Nat) : Int) 8) (cond had (used == used) (used == used)) false = true
      have : mnI ((B.len : Nat) : Int) 8 = ((min B.len 8 : Nat) : Int) := by unfold mnI; split <;> omega
      rw [this, beq_self_eq_true, beq_self_eq_true]
      cases had <;> rfl
  · have h := law_cs (ρ := feEv B used had rows) (rg := [(201, 9223372036854775807), i64I]) (ar := sAr) (args := [.xs 0, .bool (.var 0), .int .i64 (.var 1)]) ⟨by show (201 : Int) ≤ (B.len : Nat) ∧ ((B.len : Nat) : Int) ≤ 9223372036854775807; unfold maxLen at hle; omega, hu, trivial⟩ (sArIn hB rfl) (cs := []) (fun c hc => by cases hc) (cr := k14) k14_ok LpOk.none (xs := sXs) (xs_one (xok_any hB rfl rfl) rfl) (nm := []) (fun p hp => by cases hp) (nz := false) (.leaf (.bool (.lit true))) (n := 3000) (f := feF) (Tree.ok_of_check (by kernel_rfl)) rfl W (ext_any hB rfl)
    rw [hval]; exact h
end Go.Proofs.Ythhipnhnpjhaaaa
