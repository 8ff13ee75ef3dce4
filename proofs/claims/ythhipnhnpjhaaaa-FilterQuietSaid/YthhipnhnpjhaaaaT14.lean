/- Law 14: contracts whose results are named; what is shown, what is standard; FilterQuiet's tree. -/
import Derived.Test.YthhipnhnpjhaaaaEvT
namespace Go.Proofs.Ythhipnhnpjhaaaa
open Go Go.RowKit Ev
set_option linter.unusedVariables false
set_option linter.unusedSimpArgs false
set_option maxRecDepth 100000
set_option maxHeartbeats 0

/-- the name of an expression -/
def nmL : List (IE × IE) → IE → IE
  | [], e => e
  | p :: ps, e => if p.1.beq e then p.2 else nmL ps e
theorem nmL_den {ρ : Env} : ∀ {tbl : List (IE × IE)}, (∀ p ∈ tbl, p.1.den ρ = p.2.den ρ) → ∀ e, (nmL tbl e).den ρ = e.den ρ
  | [], _, e => rfl
  | p :: ps, h, e => by
    unfold nmL
    split
    · rename_i hb
      rw [← IE.beq_eq hb]
      exact (h p (List.mem_cons_self ..)).symm
    · exact nmL_den (fun q hq => h q (List.mem_cons_of_mem _ hq)) e
def conNm (tbl : List (IE × IE)) (c : Con) : Con := ⟨c.f, c.ks, fun es => match c.out es with | .int k e => .int k (nmL tbl e) | v => v⟩
theorem conNm_ok {P : Program} {ρ : Env} {tbl : List (IE × IE)} (ht : ∀ p ∈ tbl, p.1.den ρ = p.2.den ρ) {c : Con} (h : c.holds P ρ) : (conNm tbl c).holds P ρ := by
  intro es hi φ w
  have k := h es hi φ w
  refine k.mono ?_
  rintro e w' ⟨rfl, hb⟩
  refine ⟨congrArg Ending.returned ?_, hb⟩
  simp only [conNm]
  cases hc : c.out es <;> first | rfl | (simp only [SV.den, nmL_den ht])
theorem consNm_ok {P : Program} {ρ : Env} {tbl : List (IE × IE)} (ht : ∀ p ∈ tbl, p.1.den ρ = p.2.den ρ) {cs : List Con} (h : ∀ c ∈ cs, c.holds P ρ) : ∀ c ∈ cs.map (conNm tbl), c.holds P ρ := by
  intro c hc
  obtain ⟨d, hd, rfl⟩ := List.mem_map.1 hc
  exact conNm_ok ht (h d hd)
/-- a law by its tree, path by path, with any contracts -/
theorem law_cs {ρ : Env} {rg ar : List (Int × Int)} (hin : AllIn ρ.i rg 0) (har : ArIn ρ ar) {cs : List Con} (hcs : ∀ c ∈ cs, c.holds Try.prog ρ) {cr : List (FuncId × List SV × SV)} (hcr : ∀ c ∈ cr, Known Try.prog ρ c) {lp : FuncId → List Nat → Nat → Option LoopSum} (hlp : LpOk ρ [] lp) {xs : List XD} (hxs : ∀ (j : Nat) d, xs[j]? = some d → XOk ρ d (ρ.x j)) {nm : List (IE × IE)} (hnm : ∀ p ∈ nm, p.1.den ρ = p.2.den ρ) {nz : Bool}
    (T : Tree) {n : Nat} {f : FuncId} {args : List SV} (hT : T.Ok Try.prog { pc := [], cr := cr ++ crS, rg := rg, ar := ar, ct := conCt rg ar cs, lp := lp, xs := xs, nm := nm, nz := nz } n f args) (hg : good ρ T = true) (w : World) (hx : ExtIn ρ w) :
    Calls Try.prog f (SV.denL ρ id args).toArray w fun e w' => e = .returned (.bool true) ∧ Below w.heap.size w w' := by
  obtain ⟨hl, hv⟩ := good_ok hg
  have h := tree_soundX (P := Try.prog) mixed (ρ := ρ) T (X := { pc := [], cr := cr ++ crS, rg := rg, ar := ar, ct := conCt rg ar cs, lp := lp, xs := xs, nm := nm, nz := nz }) (knows_env rfl hin har hxs hnm)
    ⟨fun c hc φ w hx => (by rcases List.mem_append.1 hc with hc | hc; exact hcr c hc φ w hx; exact crS_ok c hc φ w hx), fun pc hpc f vs v h _ φ w _ => conCt_ok hin.get0 har hcs hpc h φ w, hlp⟩ hT hl w hx
  rw [hv] at h
  exact h

theorem shown14 (w : World) : Calls Try.prog 14 #[] w fun e w' => e = .returned (.bool true) ∧ Below w.heap.size w w' :=
  law_any (is := []) (bs := []) (fs := []) (rg := []) (args := []) trivial (cr := []) (fun c hc => by cases hc) (.leaf (.bool (.lit true))) (n := 3000) (by kernel_rfl) rfl rfl w
theorem standard14 (w : World) : Calls Try.prog 17 #[] w fun e w' => e = .returned (stdS.den (envOf []) id) ∧ Below w.heap.size w w' :=
  closed_call (args := []) (v := stdS) (by kernel_rfl) rfl w
abbrev k14 : List (FuncId × List SV × SV) := [(14, [], .bool (.lit true)), (17, [], stdS)]
theorem k14_ok {ρ : Env} : ∀ c ∈ k14, Known Try.prog ρ c := by
  intro c hc
  simp only [k14, List.mem_cons, List.not_mem_nil, or_false] at hc
  rcases hc with rfl | rfl
  · exact fun φ w _ => shown14 w
  · exact fun φ w _ => standard14 w
theorem good_pin {ρ : Env} {v : Nat} {k : Int} {t e : Tree} (h : ρ.i v = k) (ht : good ρ t = true) : good ρ (.node (.cmp .eql (.var v) (.lit k)) t e) = true := by
  show cond (ρ.i v == k) (good ρ t) (good ρ e) = true
  rw [beq_iff_eq.2 h]; exact ht
theorem good_skip {ρ : Env} {v : Nat} {k : Int} {t e : Tree} (h : ¬ ρ.i v = k) (he : good ρ e = true) : good ρ (.node (.cmp .eql (.var v) (.lit k)) t e) = true := by
  show cond (ρ.i v == k) (good ρ t) (good ρ e) = true
  rw [beq_false_of_ne h]; exact he
theorem good_lss {ρ : Env} {a b : IE} (h : a.den ρ < b.den ρ) : good ρ (.leaf (.bool (.cmp .lss a b))) = true := decide_eq_true h
theorem good_not {ρ : Env} {a b : IE} {t e : Tree} (h : ¬ a.den ρ < b.den ρ) (he : good ρ e = true) : good ρ (.node (.cmp .lss a b) t e) = true := by
  show cond (decide (a.den ρ < b.den ρ)) (good ρ t) (good ρ e) = true
  rw [decide_eq_false h]; exact he
theorem good_is {ρ : Env} {a b : IE} {t e : Tree} (h : a.den ρ < b.den ρ) (he : good ρ t = true) : good ρ (.node (.cmp .lss a b) t e) = true := by
  show cond (decide (a.den ρ < b.den ρ)) (good ρ t) (good ρ e) = true
  rw [decide_eq_true h]; exact he
/-- sums that are not cut -/
theorem sum_in {ρ : Env} (hap : ρ.a = apN) {x y : IE} {L B M C : Int} (hx : L ≤ x.den ρ ∧ x.den ρ ≤ B) (hy : M ≤ y.den ρ ∧ y.den ρ ≤ C) (h : 0 ≤ L + M ∧ B + C ≤ 9223372036854775807) : L + M ≤ (IE.ap 1 x y (.lit 0)).den ρ ∧ (IE.ap 1 x y (.lit 0)).den ρ ≤ B + C := by
  show L + M ≤ ρ.a 1 (x.den ρ) (y.den ρ) 0 ∧ ρ.a 1 (x.den ρ) (y.den ρ) 0 ≤ B + C
  rw [hap]
  show L + M ≤ sat (x.den ρ + y.den ρ) ∧ sat (x.den ρ + y.den ρ) ≤ B + C
  unfold sat; omega
theorem lit_in {ρ : Env} (k : Int) : k ≤ (IE.lit k).den ρ ∧ (IE.lit k).den ρ ≤ k := ⟨Int.le_refl _, Int.le_refl _⟩
theorem half_in {ρ : Env} (hap : ρ.a = apN) {v : Nat} (hv : 0 ≤ ρ.i v ∧ ρ.i v ≤ 65535) {b : Int} (hb : b ≤ 0) : 0 ≤ (IE.ap 3 (.mn (.lit 68719476736) (.var v)) (.lit b) (.lit 0)).den ρ ∧ (IE.ap 3 (.mn (.lit 68719476736) (.var v)) (.lit b) (.lit 0)).den ρ ≤ 65535 := by
  show 0 ≤ ρ.a 3 (mnI 68719476736 (ρ.i v)) b 0 ∧ ρ.a 3 (mnI 68719476736 (ρ.i v)) b 0 ≤ 65535
  rw [hap]
  have e : mnI 68719476736 (ρ.i v) = ρ.i v := by unfold mnI; split <;> omega
  rw [e]
  show 0 ≤ sat (if b ≤ 0 then ρ.i v / 2 ^ (min 63 (-b).toNat) else ρ.i v * 2 ^ (min b.toNat 64)) ∧ sat (if b ≤ 0 then ρ.i v / 2 ^ (min 63 (-b).toNat) else ρ.i v * 2 ^ (min b.toNat 64)) ≤ 65535
  rw [if_pos hb]
  have hp : (1 : Int) ≤ 2 ^ (min 63 (-b).toNat) := Int.pow_pos (by decide)
  generalize (2 : Int) ^ (min 63 (-b).toNat) = p at hp
  have h0 : 0 ≤ ρ.i v / p := Int.ediv_nonneg hv.1 (by omega)
  have h1 : ρ.i v / p ≤ ρ.i v := Int.ediv_le_self _ hv.1
  unfold sat; omega

abbrev fqR : List (Int × Int) := [(-2147483648, 2147483647), (0, 65535), (0, 65535), (0, 255), (1, 12)]
abbrev fqX : List (IE × IE) := [(.pl .add (.lit 1) (.ar .rem .i64 (.var 3) (.lit 12)), .var 4)]
abbrev fqN : List (IE × IE) := [(.ap 2 (.var 0) (.lit 0) (.lit 0), .var 0), (.ap 2 (.var 0) (.var 0) (.lit 0), .lit 0), (.ap 1 (.var 2) (.lit 0) (.lit 0), .var 2)]
abbrev fqA : List SV := [.int .i32 (.var 0), .int .u16 (.var 1), .int .u16 (.var 2), .int .u8 (.var 3)]
noncomputable abbrev fqC (pc : List (BE × Bool)) : Ctx := { pc := pc, cr := k14 ++ crS, rg := fqR, ar := arN, ct := conCt fqR arN (consN.map (conNm fqN)), nm := fqX }
def fqT : Tree :=
(.node (.cmp .eql (.var 4) (.lit 1))
 (.node (.cmp .lss (.ap 1 (.ap 1 (.ap 1 (.ap 1 (.ap 1 (.ap 1 (.ap 1 (.ap 1 (.lit 0) (.ap 3 (.mn (.lit 68719476736) (.var 2)) (.lit (-1)) (.lit 0)) (.lit 0)) (.lit 17179869184) (.lit 0)) (.lit 8589934592) (.lit 0)) (.lit 4294967296) (.lit 0)) (.lit 2147483648) (.lit 0)) (.lit 1073741824) (.lit 0)) (.lit 536870912) (.lit 0)) (.lit 268435456) (.lit 0)) (.lit 33822867456))
 .dead
 (.leaf (.bool (.cmp .lss (.ap 1 (.ap 1 (.ap 1 (.ap 1 (.ap 1 (.ap 1 (.ap 1 (.ap 1 (.lit 0) (.ap 3 (.mn (.lit 68719476736) (.var 2)) (.lit (-1)) (.lit 0)) (.lit 0)) (.lit 17179869184) (.lit 0)) (.lit 8589934592) (.lit 0)) (.lit 4294967296) (.lit 0)) (.lit 2147483648) (.lit 0)) (.lit 1073741824) (.lit 0)) (.lit 536870912) (.lit 0)) (.lit 268435456) (.lit 0)) (.lit 38654705664)))))
 (.node (.cmp .eql (.var 4) (.lit 2))
 (.leaf (.bool (.cmp .lss (.ap 1 (.ap 1 (.ap 1 (.ap 1 (.ap 1 (.ap 1 (.ap 1 (.ap 1 (.lit 0) (.ap 3 (.mn (.lit 68719476736) (.var 2)) (.lit (-1)) (.lit 0)) (.lit 0)) (.ap 3 (.mn (.lit 68719476736) (.var 2)) (.lit (-2)) (.lit 0)) (.lit 0)) (.lit 8589934592) (.lit 0)) (.lit 4294967296) (.lit 0)) (.lit 2147483648) (.lit 0)) (.lit 1073741824) (.lit 0)) (.lit 536870912) (.lit 0)) (.lit 268435456) (.lit 0)) (.lit 34359738368))))
 (.node (.cmp .eql (.var 4) (.lit 3))
 (.leaf (.bool (.cmp .lss (.ap 1 (.ap 1 (.ap 1 (.ap 1 (.ap 1 (.ap 1 (.ap 1 (.ap 1 (.lit 0) (.ap 3 (.mn (.lit 68719476736) (.var 2)) (.lit (-1)) (.lit 0)) (.lit 0)) (.ap 3 (.mn (.lit 68719476736) (.var 2)) (.lit (-2)) (.lit 0)) (.lit 0)) (.ap 3 (.mn (.lit 68719476736) (.var 2)) (.lit (-3)) (.lit 0)) (.lit 0)) (.lit 4294967296) (.lit 0)) (.lit 2147483648) (.lit 0)) (.lit 1073741824) (.lit 0)) (.lit 536870912) (.lit 0)) (.lit 268435456) (.lit 0)) (.lit 34359738368))))
 (.node (.cmp .eql (.var 4) (.lit 4))
 (.leaf (.bool (.cmp .lss (.ap 1 (.ap 1 (.ap 1 (.ap 1 (.ap 1 (.ap 1 (.ap 1 (.ap 1 (.lit 0) (.ap 3 (.mn (.lit 68719476736) (.var 2)) (.lit (-1)) (.lit 0)) (.lit 0)) (.ap 3 (.mn (.lit 68719476736) (.var 2)) (.lit (-2)) (.lit 0)) (.lit 0)) (.ap 3 (.mn (.lit 68719476736) (.var 2)) (.lit (-3)) (.lit 0)) (.lit 0)) (.ap 3 (.mn (.lit 68719476736) (.var 2)) (.lit (-4)) (.lit 0)) (.lit 0)) (.lit 2147483648) (.lit 0)) (.lit 1073741824) (.lit 0)) (.lit 536870912) (.lit 0)) (.lit 268435456) (.lit 0)) (.lit 34359738368))))
 (.node (.cmp .eql (.var 4) (.lit 5))
 (.leaf (.bool (.cmp .lss (.ap 1 (.ap 1 (.ap 1 (.ap 1 (.ap 1 (.ap 1 (.ap 1 (.ap 1 (.lit 0) (.ap 3 (.mn (.lit 68719476736) (.var 2)) (.lit (-1)) (.lit 0)) (.lit 0)) (.ap 3 (.mn (.lit 68719476736) (.var 2)) (.lit (-2)) (.lit 0)) (.lit 0)) (.ap 3 (.mn (.lit 68719476736) (.var 2)) (.lit (-3)) (.lit 0)) (.lit 0)) (.ap 3 (.mn (.lit 68719476736) (.var 2)) (.lit (-4)) (.lit 0)) (.lit 0)) (.ap 3 (.mn (.lit 68719476736) (.var 2)) (.lit (-5)) (.lit 0)) (.lit 0)) (.lit 1073741824) (.lit 0)) (.lit 536870912) (.lit 0)) (.lit 268435456) (.lit 0)) (.lit 34359738368))))
 (.node (.cmp .eql (.var 4) (.lit 6))
 (.leaf (.bool (.cmp .lss (.ap 1 (.ap 1 (.ap 1 (.ap 1 (.ap 1 (.ap 1 (.ap 1 (.ap 1 (.lit 0) (.ap 3 (.mn (.lit 68719476736) (.var 2)) (.lit (-1)) (.lit 0)) (.lit 0)) (.ap 3 (.mn (.lit 68719476736) (.var 2)) (.lit (-2)) (.lit 0)) (.lit 0)) (.ap 3 (.mn (.lit 68719476736) (.var 2)) (.lit (-3)) (.lit 0)) (.lit 0)) (.ap 3 (.mn (.lit 68719476736) (.var 2)) (.lit (-4)) (.lit 0)) (.lit 0)) (.ap 3 (.mn (.lit 68719476736) (.var 2)) (.lit (-5)) (.lit 0)) (.lit 0)) (.ap 3 (.mn (.lit 68719476736) (.var 2)) (.lit (-6)) (.lit 0)) (.lit 0)) (.lit 536870912) (.lit 0)) (.lit 268435456) (.lit 0)) (.lit 34359738368))))
 (.node (.cmp .eql (.var 4) (.lit 7))
 (.leaf (.bool (.cmp .lss (.ap 1 (.ap 1 (.ap 1 (.ap 1 (.ap 1 (.ap 1 (.ap 1 (.ap 1 (.lit 0) (.ap 3 (.mn (.lit 68719476736) (.var 2)) (.lit (-1)) (.lit 0)) (.lit 0)) (.ap 3 (.mn (.lit 68719476736) (.var 2)) (.lit (-2)) (.lit 0)) (.lit 0)) (.ap 3 (.mn (.lit 68719476736) (.var 2)) (.lit (-3)) (.lit 0)) (.lit 0)) (.ap 3 (.mn (.lit 68719476736) (.var 2)) (.lit (-4)) (.lit 0)) (.lit 0)) (.ap 3 (.mn (.lit 68719476736) (.var 2)) (.lit (-5)) (.lit 0)) (.lit 0)) (.ap 3 (.mn (.lit 68719476736) (.var 2)) (.lit (-6)) (.lit 0)) (.lit 0)) (.ap 3 (.mn (.lit 68719476736) (.var 2)) (.lit (-7)) (.lit 0)) (.lit 0)) (.lit 268435456) (.lit 0)) (.lit 34359738368))))
 (.node (.cmp .eql (.var 4) (.lit 8))
 (.leaf (.bool (.cmp .lss (.ap 1 (.ap 1 (.ap 1 (.ap 1 (.ap 1 (.ap 1 (.ap 1 (.ap 1 (.lit 0) (.ap 3 (.mn (.lit 68719476736) (.var 2)) (.lit (-1)) (.lit 0)) (.lit 0)) (.ap 3 (.mn (.lit 68719476736) (.var 2)) (.lit (-2)) (.lit 0)) (.lit 0)) (.ap 3 (.mn (.lit 68719476736) (.var 2)) (.lit (-3)) (.lit 0)) (.lit 0)) (.ap 3 (.mn (.lit 68719476736) (.var 2)) (.lit (-4)) (.lit 0)) (.lit 0)) (.ap 3 (.mn (.lit 68719476736) (.var 2)) (.lit (-5)) (.lit 0)) (.lit 0)) (.ap 3 (.mn (.lit 68719476736) (.var 2)) (.lit (-6)) (.lit 0)) (.lit 0)) (.ap 3 (.mn (.lit 68719476736) (.var 2)) (.lit (-7)) (.lit 0)) (.lit 0)) (.ap 3 (.mn (.lit 68719476736) (.var 2)) (.lit (-8)) (.lit 0)) (.lit 0)) (.lit 34359738368))))
 (.node (.cmp .eql (.var 4) (.lit 9))
 (.leaf (.bool (.cmp .lss (.ap 1 (.ap 1 (.ap 1 (.ap 1 (.ap 1 (.ap 1 (.ap 1 (.ap 1 (.lit 0) (.ap 3 (.mn (.lit 68719476736) (.var 2)) (.lit (-1)) (.lit 0)) (.lit 0)) (.ap 3 (.mn (.lit 68719476736) (.var 2)) (.lit (-2)) (.lit 0)) (.lit 0)) (.ap 3 (.mn (.lit 68719476736) (.var 2)) (.lit (-3)) (.lit 0)) (.lit 0)) (.ap 3 (.mn (.lit 68719476736) (.var 2)) (.lit (-4)) (.lit 0)) (.lit 0)) (.ap 3 (.mn (.lit 68719476736) (.var 2)) (.lit (-5)) (.lit 0)) (.lit 0)) (.ap 3 (.mn (.lit 68719476736) (.var 2)) (.lit (-6)) (.lit 0)) (.lit 0)) (.ap 3 (.mn (.lit 68719476736) (.var 2)) (.lit (-7)) (.lit 0)) (.lit 0)) (.ap 3 (.mn (.lit 68719476736) (.var 2)) (.lit (-8)) (.lit 0)) (.lit 0)) (.lit 34359738368))))
 (.node (.cmp .eql (.var 4) (.lit 10))
 (.leaf (.bool (.cmp .lss (.ap 1 (.ap 1 (.ap 1 (.ap 1 (.ap 1 (.ap 1 (.ap 1 (.ap 1 (.lit 0) (.ap 3 (.mn (.lit 68719476736) (.var 2)) (.lit (-1)) (.lit 0)) (.lit 0)) (.ap 3 (.mn (.lit 68719476736) (.var 2)) (.lit (-2)) (.lit 0)) (.lit 0)) (.ap 3 (.mn (.lit 68719476736) (.var 2)) (.lit (-3)) (.lit 0)) (.lit 0)) (.ap 3 (.mn (.lit 68719476736) (.var 2)) (.lit (-4)) (.lit 0)) (.lit 0)) (.ap 3 (.mn (.lit 68719476736) (.var 2)) (.lit (-5)) (.lit 0)) (.lit 0)) (.ap 3 (.mn (.lit 68719476736) (.var 2)) (.lit (-6)) (.lit 0)) (.lit 0)) (.ap 3 (.mn (.lit 68719476736) (.var 2)) (.lit (-7)) (.lit 0)) (.lit 0)) (.ap 3 (.mn (.lit 68719476736) (.var 2)) (.lit (-8)) (.lit 0)) (.lit 0)) (.lit 34359738368))))
 (.node (.cmp .eql (.var 4) (.lit 11))
 (.leaf (.bool (.cmp .lss (.ap 1 (.ap 1 (.ap 1 (.ap 1 (.ap 1 (.ap 1 (.ap 1 (.ap 1 (.lit 0) (.ap 3 (.mn (.lit 68719476736) (.var 2)) (.lit (-1)) (.lit 0)) (.lit 0)) (.ap 3 (.mn (.lit 68719476736) (.var 2)) (.lit (-2)) (.lit 0)) (.lit 0)) (.ap 3 (.mn (.lit 68719476736) (.var 2)) (.lit (-3)) (.lit 0)) (.lit 0)) (.ap 3 (.mn (.lit 68719476736) (.var 2)) (.lit (-4)) (.lit 0)) (.lit 0)) (.ap 3 (.mn (.lit 68719476736) (.var 2)) (.lit (-5)) (.lit 0)) (.lit 0)) (.ap 3 (.mn (.lit 68719476736) (.var 2)) (.lit (-6)) (.lit 0)) (.lit 0)) (.ap 3 (.mn (.lit 68719476736) (.var 2)) (.lit (-7)) (.lit 0)) (.lit 0)) (.ap 3 (.mn (.lit 68719476736) (.var 2)) (.lit (-8)) (.lit 0)) (.lit 0)) (.lit 34359738368))))
 (.node (.cmp .eql (.var 4) (.lit 12))
 (.leaf (.bool (.cmp .lss (.ap 1 (.ap 1 (.ap 1 (.ap 1 (.ap 1 (.ap 1 (.ap 1 (.ap 1 (.lit 0) (.ap 3 (.mn (.lit 68719476736) (.var 2)) (.lit (-1)) (.lit 0)) (.lit 0)) (.ap 3 (.mn (.lit 68719476736) (.var 2)) (.lit (-2)) (.lit 0)) (.lit 0)) (.ap 3 (.mn (.lit 68719476736) (.var 2)) (.lit (-3)) (.lit 0)) (.lit 0)) (.ap 3 (.mn (.lit 68719476736) (.var 2)) (.lit (-4)) (.lit 0)) (.lit 0)) (.ap 3 (.mn (.lit 68719476736) (.var 2)) (.lit (-5)) (.lit 0)) (.lit 0)) (.ap 3 (.mn (.lit 68719476736) (.var 2)) (.lit (-6)) (.lit 0)) (.lit 0)) (.ap 3 (.mn (.lit 68719476736) (.var 2)) (.lit (-7)) (.lit 0)) (.lit 0)) (.ap 3 (.mn (.lit 68719476736) (.var 2)) (.lit (-8)) (.lit 0)) (.lit 0)) (.lit 34359738368))))
 .dead))))))))))))
theorem fq_g1 {ρ : Env} (hap : ρ.a = apN) (hv : 0 ≤ ρ.i 2 ∧ ρ.i 2 ≤ 65535) (h : ρ.i 4 = 1) : good ρ fqT = true := (good_pin h (good_not (Int.not_lt.2 (Int.le_trans (show (33822867456 : Int) ≤ _ by decide) (sum_in hap (sum_in hap (sum_in hap (sum_in hap (sum_in hap (sum_in hap (sum_in hap (sum_in hap (lit_in 0) (half_in hap hv (b := -1) (by decide)) (by decide)) (lit_in 17179869184) (by decide)) (lit_in 8589934592) (by decide)) (lit_in 4294967296) (by decide)) (lit_in 2147483648) (by decide)) (lit_in 1073741824) (by decide)) (lit_in 536870912) (by decide)) (lit_in 268435456) (by decide)).1)) (good_lss (Int.lt_of_le_of_lt (sum_in hap (sum_in hap (sum_in hap (sum_in hap (sum_in hap (sum_in hap (sum_in hap (sum_in hap (lit_in 0) (half_in hap hv (b := -1) (by decide)) (by decide)) (lit_in 17179869184) (by decide)) (lit_in 8589934592) (by decide)) (lit_in 4294967296) (by decide)) (lit_in 2147483648) (by decide)) (lit_in 1073741824) (by decide)) (lit_in 536870912) (by decide)) (lit_in 268435456) (by decide)).2 (by show _ < (38654705664 : Int); decide)))))
theorem fq_g2 {ρ : Env} (hap : ρ.a = apN) (hv : 0 ≤ ρ.i 2 ∧ ρ.i 2 ≤ 65535) (h : ρ.i 4 = 2) : good ρ fqT = true := (good_skip (by rw [h]; decide) (good_pin h (good_lss (Int.lt_of_le_of_lt (sum_in hap (sum_in hap (sum_in hap (sum_in hap (sum_in hap (sum_in hap (sum_in hap (sum_in hap (lit_in 0) (half_in hap hv (b := -1) (by decide)) (by decide)) (half_in hap hv (b := -2) (by decide)) (by decide)) (lit_in 8589934592) (by decide)) (lit_in 4294967296) (by decide)) (lit_in 2147483648) (by decide)) (lit_in 1073741824) (by decide)) (lit_in 536870912) (by decide)) (lit_in 268435456) (by decide)).2 (by show _ < (34359738368 : Int); decide)))))
theorem fq_g3 {ρ : Env} (hap : ρ.a = apN) (hv : 0 ≤ ρ.i 2 ∧ ρ.i 2 ≤ 65535) (h : ρ.i 4 = 3) : good ρ fqT = true := (good_skip (by rw [h]; decide) (good_skip (by rw [h]; decide) (good_pin h (good_lss (Int.lt_of_le_of_lt (sum_in hap (sum_in hap (sum_in hap (sum_in hap (sum_in hap (sum_in hap (sum_in hap (sum_in hap (lit_in 0) (half_in hap hv (b := -1) (by decide)) (by decide)) (half_in hap hv (b := -2) (by decide)) (by decide)) (half_in hap hv (b := -3) (by decide)) (by decide)) (lit_in 4294967296) (by decide)) (lit_in 2147483648) (by decide)) (lit_in 1073741824) (by decide)) (lit_in 536870912) (by decide)) (lit_in 268435456) (by decide)).2 (by show _ < (34359738368 : Int); decide))))))
theorem fq_g4 {ρ : Env} (hap : ρ.a = apN) (hv : 0 ≤ ρ.i 2 ∧ ρ.i 2 ≤ 65535) (h : ρ.i 4 = 4) : good ρ fqT = true := (good_skip (by rw [h]; decide) (good_skip (by rw [h]; decide) (good_skip (by rw [h]; decide) (good_pin h (good_lss (Int.lt_of_le_of_lt (sum_in hap (sum_in hap (sum_in hap (sum_in hap (sum_in hap (sum_in hap (sum_in hap (sum_in hap (lit_in 0) (half_in hap hv (b := -1) (by decide)) (by decide)) (half_in hap hv (b := -2) (by decide)) (by decide)) (half_in hap hv (b := -3) (by decide)) (by decide)) (half_in hap hv (b := -4) (by decide)) (by decide)) (lit_in 2147483648) (by decide)) (lit_in 1073741824) (by decide)) (lit_in 536870912) (by decide)) (lit_in 268435456) (by decide)).2 (by show _ < (34359738368 : Int); decide)))))))
theorem fq_g5 {ρ : Env} (hap : ρ.a = apN) (hv : 0 ≤ ρ.i 2 ∧ ρ.i 2 ≤ 65535) (h : ρ.i 4 = 5) : good ρ fqT = true := (good_skip (by rw [h]; decide) (good_skip (by rw [h]; decide) (good_skip (by rw [h]; decide) (good_skip (by rw [h]; decide) (good_pin h (good_lss (Int.lt_of_le_of_lt (sum_in hap (sum_in hap (sum_in hap (sum_in hap (sum_in hap (sum_in hap (sum_in hap (sum_in hap (lit_in 0) (half_in hap hv (b := -1) (by decide)) (by decide)) (half_in hap hv (b := -2) (by decide)) (by decide)) (half_in hap hv (b := -3) (by decide)) (by decide)) (half_in hap hv (b := -4) (by decide)) (by decide)) (half_in hap hv (b := -5) (by decide)) (by decide)) (lit_in 1073741824) (by decide)) (lit_in 536870912) (by decide)) (lit_in 268435456) (by decide)).2 (by show _ < (34359738368 : Int); decide))))))))
theorem fq_g6 {ρ : Env} (hap : ρ.a = apN) (hv : 0 ≤ ρ.i 2 ∧ ρ.i 2 ≤ 65535) (h : ρ.i 4 = 6) : good ρ fqT = true := (good_skip (by rw [h]; decide) (good_skip (by rw [h]; decide) (good_skip (by rw [h]; decide) (good_skip (by rw [h]; decide) (good_skip (by rw [h]; decide) (good_pin h (good_lss (Int.lt_of_le_of_lt (sum_in hap (sum_in hap (sum_in hap (sum_in hap (sum_in hap (sum_in hap (sum_in hap (sum_in hap (lit_in 0) (half_in hap hv (b := -1) (by decide)) (by decide)) (half_in hap hv (b := -2) (by decide)) (by decide)) (half_in hap hv (b := -3) (by decide)) (by decide)) (half_in hap hv (b := -4) (by decide)) (by decide)) (half_in hap hv (b := -5) (by decide)) (by decide)) (half_in hap hv (b := -6) (by decide)) (by decide)) (lit_in 536870912) (by decide)) (lit_in 268435456) (by decide)).2 (by show _ < (34359738368 : Int); decide)))))))))
theorem fq_g7 {ρ : Env} (hap : ρ.a = apN) (hv : 0 ≤ ρ.i 2 ∧ ρ.i 2 ≤ 65535) (h : ρ.i 4 = 7) : good ρ fqT = true := (good_skip (by rw [h]; decide) (good_skip (by rw [h]; decide) (good_skip (by rw [h]; decide) (good_skip (by rw [h]; decide) (good_skip (by rw [h]; decide) (good_skip (by rw [h]; decide) (good_pin h (good_lss (Int.lt_of_le_of_lt (sum_in hap (sum_in hap (sum_in hap (sum_in hap (sum_in hap (sum_in hap (sum_in hap (sum_in hap (lit_in 0) (half_in hap hv (b := -1) (by decide)) (by decide)) (half_in hap hv (b := -2) (by decide)) (by decide)) (half_in hap hv (b := -3) (by decide)) (by decide)) (half_in hap hv (b := -4) (by decide)) (by decide)) (half_in hap hv (b := -5) (by decide)) (by decide)) (half_in hap hv (b := -6) (by decide)) (by decide)) (half_in hap hv (b := -7) (by decide)) (by decide)) (lit_in 268435456) (by decide)).2 (by show _ < (34359738368 : Int); decide))))))))))
theorem fq_g8 {ρ : Env} (hap : ρ.a = apN) (hv : 0 ≤ ρ.i 2 ∧ ρ.i 2 ≤ 65535) (h : ρ.i 4 = 8) : good ρ fqT = true := (good_skip (by rw [h]; decide) (good_skip (by rw [h]; decide) (good_skip (by rw [h]; decide) (good_skip (by rw [h]; decide) (good_skip (by rw [h]; decide) (good_skip (by rw [h]; decide) (good_skip (by rw [h]; decide) (good_pin h (good_lss (Int.lt_of_le_of_lt (sum_in hap (sum_in hap (sum_in hap (sum_in hap (sum_in hap (sum_in hap (sum_in hap (sum_in hap (lit_in 0) (half_in hap hv (b := -1) (by decide)) (by decide)) (half_in hap hv (b := -2) (by decide)) (by decide)) (half_in hap hv (b := -3) (by decide)) (by decide)) (half_in hap hv (b := -4) (by decide)) (by decide)) (half_in hap hv (b := -5) (by decide)) (by decide)) (half_in hap hv (b := -6) (by decide)) (by decide)) (half_in hap hv (b := -7) (by decide)) (by decide)) (half_in hap hv (b := -8) (by decide)) (by decide)).2 (by show _ < (34359738368 : Int); decide)))))))))))
theorem fq_g9 {ρ : Env} (hap : ρ.a = apN) (hv : 0 ≤ ρ.i 2 ∧ ρ.i 2 ≤ 65535) (h : ρ.i 4 = 9) : good ρ fqT = true := (good_skip (by rw [h]; decide) (good_skip (by rw [h]; decide) (good_skip (by rw [h]; decide) (good_skip (by rw [h]; decide) (good_skip (by rw [h]; decide) (good_skip (by rw [h]; decide) (good_skip (by rw [h]; decide) (good_skip (by rw [h]; decide) (good_pin h (good_lss (Int.lt_of_le_of_lt (sum_in hap (sum_in hap (sum_in hap (sum_in hap (sum_in hap (sum_in hap (sum_in hap (sum_in hap (lit_in 0) (half_in hap hv (b := -1) (by decide)) (by decide)) (half_in hap hv (b := -2) (by decide)) (by decide)) (half_in hap hv (b := -3) (by decide)) (by decide)) (half_in hap hv (b := -4) (by decide)) (by decide)) (half_in hap hv (b := -5) (by decide)) (by decide)) (half_in hap hv (b := -6) (by decide)) (by decide)) (half_in hap hv (b := -7) (by decide)) (by decide)) (half_in hap hv (b := -8) (by decide)) (by decide)).2 (by show _ < (34359738368 : Int); decide))))))))))))
theorem fq_g10 {ρ : Env} (hap : ρ.a = apN) (hv : 0 ≤ ρ.i 2 ∧ ρ.i 2 ≤ 65535) (h : ρ.i 4 = 10) : good ρ fqT = true := (good_skip (by rw [h]; decide) (good_skip (by rw [h]; decide) (good_skip (by rw [h]; decide) (good_skip (by rw [h]; decide) (good_skip (by rw [h]; decide) (good_skip (by rw [h]; decide) (good_skip (by rw [h]; decide) (good_skip (by rw [h]; decide) (good_skip (by rw [h]; decide) (good_pin h (good_lss (Int.lt_of_le_of_lt (sum_in hap (sum_in hap (sum_in hap (sum_in hap (sum_in hap (sum_in hap (sum_in hap (sum_in hap (lit_in 0) (half_in hap hv (b := -1) (by decide)) (by decide)) (half_in hap hv (b := -2) (by decide)) (by decide)) (half_in hap hv (b := -3) (by decide)) (by decide)) (half_in hap hv (b := -4) (by decide)) (by decide)) (half_in hap hv (b := -5) (by decide)) (by decide)) (half_in hap hv (b := -6) (by decide)) (by decide)) (half_in hap hv (b := -7) (by decide)) (by decide)) (half_in hap hv (b := -8) (by decide)) (by decide)).2 (by show _ < (34359738368 : Int); decide)))))))))))))
theorem fq_g11 {ρ : Env} (hap : ρ.a = apN) (hv : 0 ≤ ρ.i 2 ∧ ρ.i 2 ≤ 65535) (h : ρ.i 4 = 11) : good ρ fqT = true := (good_skip (by rw [h]; decide) (good_skip (by rw [h]; decide) (good_skip (by rw [h]; decide) (good_skip (by rw [h]; decide) (good_skip (by rw [h]; decide) (good_skip (by rw [h]; decide) (good_skip (by rw [h]; decide) (good_skip (by rw [h]; decide) (good_skip (by rw [h]; decide) (good_skip (by rw [h]; decide) (good_pin h (good_lss (Int.lt_of_le_of_lt (sum_in hap (sum_in hap (sum_in hap (sum_in hap (sum_in hap (sum_in hap (sum_in hap (sum_in hap (lit_in 0) (half_in hap hv (b := -1) (by decide)) (by decide)) (half_in hap hv (b := -2) (by decide)) (by decide)) (half_in hap hv (b := -3) (by decide)) (by decide)) (half_in hap hv (b := -4) (by decide)) (by decide)) (half_in hap hv (b := -5) (by decide)) (by decide)) (half_in hap hv (b := -6) (by decide)) (by decide)) (half_in hap hv (b := -7) (by decide)) (by decide)) (half_in hap hv (b := -8) (by decide)) (by decide)).2 (by show _ < (34359738368 : Int); decide))))))))))))))
theorem fq_g12 {ρ : Env} (hap : ρ.a = apN) (hv : 0 ≤ ρ.i 2 ∧ ρ.i 2 ≤ 65535) (h : ρ.i 4 = 12) : good ρ fqT = true := (good_skip (by rw [h]; decide) (good_skip (by rw [h]; decide) (good_skip (by rw [h]; decide) (good_skip (by rw [h]; decide) (good_skip (by rw [h]; decide) (good_skip (by rw [h]; decide) (good_skip (by rw [h]; decide) (good_skip (by rw [h]; decide) (good_skip (by rw [h]; decide) (good_skip (by rw [h]; decide) (good_skip (by rw [h]; decide) (good_pin h (good_lss (Int.lt_of_le_of_lt (sum_in hap (sum_in hap (sum_in hap (sum_in hap (sum_in hap (sum_in hap (sum_in hap (sum_in hap (lit_in 0) (half_in hap hv (b := -1) (by decide)) (by decide)) (half_in hap hv (b := -2) (by decide)) (by decide)) (half_in hap hv (b := -3) (by decide)) (by decide)) (half_in hap hv (b := -4) (by decide)) (by decide)) (half_in hap hv (b := -5) (by decide)) (by decide)) (half_in hap hv (b := -6) (by decide)) (by decide)) (half_in hap hv (b := -7) (by decide)) (by decide)) (half_in hap hv (b := -8) (by decide)) (by decide)).2 (by show _ < (34359738368 : Int); decide)))))))))))))))
end Go.Proofs.Ythhipnhnpjhaaaa
