/- Law 14: FilterSpikes. -/
import Derived.Test.YthhipnhnpjhaaaaEvT
namespace Go.Proofs.Ythhipnhnpjhaaaa
open Go Go.RowKit Ev
set_option linter.unusedVariables false
set_option linter.unusedSimpArgs false
set_option maxRecDepth 100000
set_option maxHeartbeats 0
/-- the name of an expression -/
def nmL : List (IE × IE) → IE → IE
  | [], e => e
  | p :: ps, e => if p.1.beq e then p.2 else nmL ps e
theorem nmL_den {ρ : Env} : ∀ {tbl : List (IE × IE)}, (∀ p ∈ tbl, p.1.den ρ = p.2.den ρ) → ∀ e, (nmL tbl e).den ρ = e.den ρ
  | [], _, e => rfl
  | p :: ps, h, e => by
    unfold nmL
    split
    · rename_i hb
      rw [← IE.beq_eq hb]
      exact (h p (List.mem_cons_self ..)).symm
    · exact nmL_den (fun q hq => h q (List.mem_cons_of_mem _ hq)) e
def conNm (tbl : List (IE × IE)) (c : Con) : Con := ⟨c.f, c.ks, fun es => match c.out es with | .int k e => .int k (nmL tbl e) | v => v⟩
theorem conNm_ok {P : Program} {ρ : Env} {tbl : List (IE × IE)} (ht : ∀ p ∈ tbl, p.1.den ρ = p.2.den ρ) {c : Con} (h : c.holds P ρ) : (conNm tbl c).holds P ρ := by
  intro es hi φ w
  have k := h es hi φ w
  refine k.mono ?_
  rintro e w' ⟨rfl, hb⟩
  refine ⟨congrArg Ending.returned ?_, hb⟩
  simp only [conNm]
  cases hc : c.out es <;> first | rfl | (simp only [SV.den, nmL_den ht])
theorem consNm_ok {P : Program} {ρ : Env} {tbl : List (IE × IE)} (ht : ∀ p ∈ tbl, p.1.den ρ = p.2.den ρ) {cs : List Con} (h : ∀ c ∈ cs, c.holds P ρ) : ∀ c ∈ cs.map (conNm tbl), c.holds P ρ := by
  intro c hc
  obtain ⟨d, hd, rfl⟩ := List.mem_map.1 hc
  exact conNm_ok ht (h d hd)
/-- a law by its tree, path by path, with any contracts -/
theorem law_cs {ρ : Env} {rg ar : List (Int × Int)} (hin : AllIn ρ.i rg 0) (har : ArIn ρ ar) {cs : List Con} (hcs : ∀ c ∈ cs, c.holds Try.prog ρ) {cr : List (FuncId × List SV × SV)} (hcr : ∀ c ∈ cr, Known Try.prog ρ c) {lp : FuncId → List Nat → Nat → Option LoopSum} (hlp : LpOk ρ [] lp) {xs : List XD} (hxs : ∀ (j : Nat) d, xs[j]? = some d → XOk ρ d (ρ.x j)) {nm : List (IE × IE)} (hnm : ∀ p ∈ nm, p.1.den ρ = p.2.den ρ) {nz : Bool}
    (T : Tree) {n : Nat} {f : FuncId} {args : List SV} (hT : T.Ok Try.prog { pc := [], cr := cr ++ crS, rg := rg, ar := ar, ct := conCt rg ar cs, lp := lp, xs := xs, nm := nm, nz := nz } n f args) (hg : good ρ T = true) (w : World) (hx : ExtIn ρ w) :
    Calls Try.prog f (SV.denL ρ id args).toArray w fun e w' => e = .returned (.bool true) ∧ Below w.heap.size w w' := by
  obtain ⟨hl, hv⟩ := good_ok hg
  have h := tree_soundX (P := Try.prog) mixed (ρ := ρ) T (X := { pc := [], cr := cr ++ crS, rg := rg, ar := ar, ct := conCt rg ar cs, lp := lp, xs := xs, nm := nm, nz := nz }) (knows_env rfl hin har hxs hnm)
    ⟨fun c hc φ w hx => (by rcases List.mem_append.1 hc with hc | hc; exact hcr c hc φ w hx; exact crS_ok c hc φ w hx), fun pc hpc f vs v h _ φ w _ => conCt_ok hin.get0 har hcs hpc h φ w, hlp⟩ hT hl w hx
  rw [hv] at h
  exact h

theorem shown14 (w : World) : Calls Try.prog 14 #[] w fun e w' => e = .returned (.bool true) ∧ Below w.heap.size w w' :=
  law_any (is := []) (bs := []) (fs := []) (rg := []) (args := []) trivial (cr := []) (fun c hc => by cases hc) (.leaf (.bool (.lit true))) (n := 3000) (by kernel_rfl) rfl rfl w
theorem standard14 (w : World) : Calls Try.prog 17 #[] w fun e w' => e = .returned (stdS.den (envOf []) id) ∧ Below w.heap.size w w' :=
  closed_call (args := []) (v := stdS) (by kernel_rfl) rfl w
abbrev k14 : List (FuncId × List SV × SV) := [(14, [], .bool (.lit true)), (17, [], stdS)]
theorem k14_ok {ρ : Env} : ∀ c ∈ k14, Known Try.prog ρ c := by
  intro c hc
  simp only [k14, List.mem_cons, List.not_mem_nil, or_false] at hc
  rcases hc with rfl | rfl
  · exact fun φ w _ => shown14 w
  · exact fun φ w _ => standard14 w
theorem good_pin {ρ : Env} {v : Nat} {k : Int} {t e : Tree} (h : ρ.i v = k) (ht : good ρ t = true) : good ρ (.node (.cmp .eql (.var v) (.lit k)) t e) = true := by
  show cond (ρ.i v == k) (good ρ t) (good ρ e) = true
  rw [beq_iff_eq.2 h]; exact ht
theorem good_skip {ρ : Env} {v : Nat} {k : Int} {t e : Tree} (h : ¬ ρ.i v = k) (he : good ρ e = true) : good ρ (.node (.cmp .eql (.var v) (.lit k)) t e) = true := by
  show cond (ρ.i v == k) (good ρ t) (good ρ e) = true
  rw [beq_false_of_ne h]; exact he
theorem good_lss {ρ : Env} {a b : IE} (h : a.den ρ < b.den ρ) : good ρ (.leaf (.bool (.cmp .lss a b))) = true := decide_eq_true h
theorem good_not {ρ : Env} {a b : IE} {t e : Tree} (h : ¬ a.den ρ < b.den ρ) (he : good ρ e = true) : good ρ (.node (.cmp .lss a b) t e) = true := by
  show cond (decide (a.den ρ < b.den ρ)) (good ρ t) (good ρ e) = true
  rw [decide_eq_false h]; exact he
theorem good_is {ρ : Env} {a b : IE} {t e : Tree} (h : a.den ρ < b.den ρ) (he : good ρ t = true) : good ρ (.node (.cmp .lss a b) t e) = true := by
  show cond (decide (a.den ρ < b.den ρ)) (good ρ t) (good ρ e) = true
  rw [decide_eq_true h]; exact he
/-- sums that are not cut -/
theorem sum_in {ρ : Env} (hap : ρ.a = apN) {x y : IE} {L B M C : Int} (hx : L ≤ x.den ρ ∧ x.den ρ ≤ B) (hy : M ≤ y.den ρ ∧ y.den ρ ≤ C) (h : 0 ≤ L + M ∧ B + C ≤ 9223372036854775807) : L + M ≤ (IE.ap 1 x y (.lit 0)).den ρ ∧ (IE.ap 1 x y (.lit 0)).den ρ ≤ B + C := by
  show L + M ≤ ρ.a 1 (x.den ρ) (y.den ρ) 0 ∧ ρ.a 1 (x.den ρ) (y.den ρ) 0 ≤ B + C
  rw [hap]
  show L + M ≤ sat (x.den ρ + y.den ρ) ∧ sat (x.den ρ + y.den ρ) ≤ B + C
  unfold sat; omega
theorem lit_in {ρ : Env} (k : Int) : k ≤ (IE.lit k).den ρ ∧ (IE.lit k).den ρ ≤ k := ⟨Int.le_refl _, Int.le_refl _⟩
theorem half_in {ρ : Env} (hap : ρ.a = apN) {v : Nat} (hv : 0 ≤ ρ.i v ∧ ρ.i v ≤ 65535) {b : Int} (hb : b ≤ 0) : 0 ≤ (IE.ap 3 (.mn (.lit 68719476736) (.var v)) (.lit b) (.lit 0)).den ρ ∧ (IE.ap 3 (.mn (.lit 68719476736) (.var v)) (.lit b) (.lit 0)).den ρ ≤ 65535 := by
  show 0 ≤ ρ.a 3 (mnI 68719476736 (ρ.i v)) b 0 ∧ ρ.a 3 (mnI 68719476736 (ρ.i v)) b 0 ≤ 65535
  rw [hap]
  have e : mnI 68719476736 (ρ.i v) = ρ.i v := by unfold mnI; split <;> omega
  rw [e]
  show 0 ≤ sat (if b ≤ 0 then ρ.i v / 2 ^ (min 63 (-b).toNat) else ρ.i v * 2 ^ (min b.toNat 64)) ∧ sat (if b ≤ 0 then ρ.i v / 2 ^ (min 63 (-b).toNat) else ρ.i v * 2 ^ (min b.toNat 64)) ≤ 65535
  rw [if_pos hb]
  have hp : (1 : Int) ≤ 2 ^ (min 63 (-b).toNat) := Int.pow_pos (by decide)
  generalize (2 : Int) ^ (min 63 (-b).toNat) = p at hp
  have h0 : 0 ≤ ρ.i v / p := Int.ediv_nonneg hv.1 (by omega)
  have h1 : ρ.i v / p ≤ ρ.i v := Int.ediv_le_self _ hv.1
  unfold sat; omega


abbrev fsR : List (Int × Int) := [(-2147483648, 2147483647), (0, 65535), (-2147483648, 2147483647), (0, 255), (-4294967296, 281479271743487), (21474836480, 1116691496960), (-4294967295, 4294967295), (4294967296, 281474976710656), (4294967296, 9223372036854775807)]
abbrev fsX : List (IE × IE) := [(.pl .sub (.pl .add (.var 0) (.pl .mul (.pl .add (.var 1) (.lit 1)) (.lit 4294967296))) (.var 2), .var 4), (.pl .mul (.pl .add (.lit 5) (.var 3)) (.lit 4294967296), .var 5), (.pl .mul (.pl .add (.var 3) (.lit 5)) (.lit 4294967296), .var 5)]
abbrev fsN : List (IE × IE) := [(.ap 2 (.var 0) (.lit 0) (.lit 0), .var 0), (.ap 2 (.var 0) (.var 0) (.lit 0), .lit 0), (.ap 2 (.var 2) (.var 2) (.lit 0), .lit 0), (.ap 2 (.var 2) (.lit 0) (.lit 0), .var 2), (.ap 2 (.var 0) (.var 2) (.lit 0), .var 6), (.ap 2 (.var 4) (.lit 0) (.lit 0), .var 4), (.ap 2 (.var 4) (.var 6) (.lit 0), .var 7), (.ap 11 (.var 7) (.lit 0) (.lit 0), .var 7), (.ap 4 (.var 7) (.var 7) (.lit 0), .var 8), (.ap 2 (.var 5) (.var 5) (.lit 0), .lit 0), (.ap 2 (.var 5) (.lit 12884901888) (.lit 0), .pl .sub (.var 5) (.lit 12884901888))]
abbrev fsA : List SV := [.int .i32 (.var 0), .int .u16 (.var 1), .int .i32 (.var 2), .int .u8 (.var 3)]
noncomputable abbrev fsC (pc : List (BE × Bool)) : Ctx := { pc := pc, cr := k14 ++ crS, rg := fsR, ar := arN, ct := conCt fsR arN (consN.map (conNm fsN)), nm := fsX }
def fsE00 : BE := (.and (.cmp .eql (.var 4) (.var 4)) (.and (.cmp .eql (.ap 1 (.ap 1 (.ap 1 (.ap 1 (.ap 1 (.ap 1 (.ap 1 (.lit 5) (.ap 3 (.mn (.lit 68719476736) (.ap 1 (.lit 10) (.ap 4 (.lit 64424) (.mx (.pl .sub (.var 5) (.lit 12884901888)) (.lit 0)) (.lit 0)) (.lit 0))) (.lit (-2)) (.lit 0)) (.lit 0)) (.ap 3 (.mn (.lit 68719476736) (.ap 1 (.lit 10) (.ap 4 (.lit 64424) (.mx (.ap 2 (.var 5) (.lit 8589934592) (.lit 0)) (.lit 0)) (.lit 0)) (.lit 0))) (.lit (-3)) (.lit 0)) (.lit 0)) (.ap 3 (.mn (.lit 68719476736) (.ap 1 (.lit 10) (.ap 4 (.lit 64424) (.mx (.ap 2 (.var 5) (.lit 4294967296) (.lit 0)) (.lit 0)) (.lit 0)) (.lit 0))) (.lit (-4)) (.lit 0)) (.lit 0)) (.ap 3 (.mn (.lit 68719476736) (.ap 1 (.lit 10) (.ap 4 (.lit 64424) (.mx (.ap 2 (.var 5) (.lit 0) (.lit 0)) (.lit 0)) (.lit 0)) (.lit 0))) (.lit (-5)) (.lit 0)) (.lit 0)) (.lit 1073741824) (.lit 0)) (.lit 536870912) (.lit 0)) (.lit 268435456) (.lit 0)) (.ap 1 (.ap 1 (.ap 1 (.ap 1 (.ap 1 (.ap 1 (.ap 1 (.lit 5) (.ap 3 (.mn (.lit 68719476736) (.ap 1 (.lit 10) (.ap 4 (.lit 64424) (.mx (.pl .sub (.var 5) (.lit 12884901888)) (.lit 0)) (.lit 0)) (.lit 0))) (.lit (-2)) (.lit 0)) (.lit 0)) (.ap 3 (.mn (.lit 68719476736) (.ap 1 (.lit 10) (.ap 4 (.lit 64424) (.mx (.ap 2 (.var 5) (.lit 8589934592) (.lit 0)) (.lit 0)) (.lit 0)) (.lit 0))) (.lit (-3)) (.lit 0)) (.lit 0)) (.ap 3 (.mn (.lit 68719476736) (.ap 1 (.lit 10) (.ap 4 (.lit 64424) (.mx (.ap 2 (.var 5) (.lit 4294967296) (.lit 0)) (.lit 0)) (.lit 0)) (.lit 0))) (.lit (-4)) (.lit 0)) (.lit 0)) (.ap 3 (.mn (.lit 68719476736) (.ap 1 (.lit 10) (.ap 4 (.lit 64424) (.mx (.ap 2 (.var 5) (.lit 0) (.lit 0)) (.lit 0)) (.lit 0)) (.lit 0))) (.lit (-5)) (.lit 0)) (.lit 0)) (.lit 1073741824) (.lit 0)) (.lit 536870912) (.lit 0)) (.lit 268435456) (.lit 0))) (.and (.cmp .eql (.mx (.ap 9 (.pl .mul (.lit 1) (.mn (.ap 5 (.lit 0) (.pl .sub (.ar .add .u64 (.ar .add .u64 (.pl .add (.pl .add (.lit 0) (.var 8)) (.var 8)) (.var 8)) (.var 8)) (.lit 0)) (.lit 4)) (.lit 9223372036854775807))) (.lit 0) (.lit 0)) (.lit 4096)) (.mx (.ap 9 (.pl .mul (.lit 1) (.mn (.ap 5 (.lit 0) (.pl .sub (.ar .add .u64 (.ar .add .u64 (.pl .add (.pl .add (.lit 0) (.var 8)) (.var 8)) (.var 8)) (.var 8)) (.lit 0)) (.lit 4)) (.lit 9223372036854775807))) (.lit 0) (.lit 0)) (.lit 4096))) (.and (.cmp .eql (.var 5) (.var 5)) (.lit true)))))
def fsE01 : BE := (.and (.cmp .eql (.var 4) (.var 4)) (.and (.cmp .eql (.ap 1 (.ap 1 (.ap 1 (.ap 1 (.ap 1 (.ap 1 (.ap 1 (.lit 5) (.ap 3 (.mn (.lit 68719476736) (.ap 1 (.lit 10) (.ap 4 (.lit 64424) (.mx (.pl .sub (.var 5) (.lit 12884901888)) (.lit 0)) (.lit 0)) (.lit 0))) (.lit (-2)) (.lit 0)) (.lit 0)) (.ap 3 (.mn (.lit 68719476736) (.ap 1 (.lit 10) (.ap 4 (.lit 64424) (.mx (.ap 2 (.var 5) (.lit 8589934592) (.lit 0)) (.lit 0)) (.lit 0)) (.lit 0))) (.lit (-3)) (.lit 0)) (.lit 0)) (.ap 3 (.mn (.lit 68719476736) (.ap 1 (.lit 10) (.ap 4 (.lit 64424) (.mx (.ap 2 (.var 5) (.lit 4294967296) (.lit 0)) (.lit 0)) (.lit 0)) (.lit 0))) (.lit (-4)) (.lit 0)) (.lit 0)) (.ap 3 (.mn (.lit 68719476736) (.ap 1 (.lit 10) (.ap 4 (.lit 64424) (.mx (.ap 2 (.var 5) (.lit 0) (.lit 0)) (.lit 0)) (.lit 0)) (.lit 0))) (.lit (-5)) (.lit 0)) (.lit 0)) (.lit 1073741824) (.lit 0)) (.lit 536870912) (.lit 0)) (.lit 268435456) (.lit 0)) (.ap 1 (.ap 1 (.ap 1 (.ap 1 (.ap 1 (.ap 1 (.ap 1 (.lit 5) (.ap 3 (.mn (.lit 68719476736) (.ap 1 (.lit 10) (.ap 4 (.lit 64424) (.mx (.pl .sub (.var 5) (.lit 12884901888)) (.lit 0)) (.lit 0)) (.lit 0))) (.lit (-2)) (.lit 0)) (.lit 0)) (.ap 3 (.mn (.lit 68719476736) (.ap 1 (.lit 10) (.ap 4 (.lit 64424) (.mx (.ap 2 (.var 5) (.lit 8589934592) (.lit 0)) (.lit 0)) (.lit 0)) (.lit 0))) (.lit (-3)) (.lit 0)) (.lit 0)) (.ap 3 (.mn (.lit 68719476736) (.ap 1 (.lit 10) (.ap 4 (.lit 64424) (.mx (.ap 2 (.var 5) (.lit 4294967296) (.lit 0)) (.lit 0)) (.lit 0)) (.lit 0))) (.lit (-4)) (.lit 0)) (.lit 0)) (.ap 3 (.mn (.lit 68719476736) (.ap 1 (.lit 10) (.ap 4 (.lit 64424) (.mx (.ap 2 (.var 5) (.lit 0) (.lit 0)) (.lit 0)) (.lit 0)) (.lit 0))) (.lit (-5)) (.lit 0)) (.lit 0)) (.lit 1073741824) (.lit 0)) (.lit 536870912) (.lit 0)) (.lit 268435456) (.lit 0))) (.and (.cmp .eql (.mx (.ap 9 (.pl .mul (.lit 1) (.mn (.ap 5 (.lit 1) (.pl .sub (.ar .add .u64 (.ar .add .u64 (.pl .add (.pl .add (.lit 0) (.var 8)) (.var 8)) (.var 8)) (.var 8)) (.lit 0)) (.lit 4)) (.lit 9223372036854775807))) (.lit 0) (.lit 0)) (.lit 4096)) (.mx (.ap 9 (.pl .mul (.lit 1) (.mn (.ap 5 (.lit 1) (.pl .sub (.ar .add .u64 (.ar .add .u64 (.pl .add (.pl .add (.lit 0) (.var 8)) (.var 8)) (.var 8)) (.var 8)) (.lit 0)) (.lit 4)) (.lit 9223372036854775807))) (.lit 0) (.lit 0)) (.lit 4096))) (.and (.cmp .eql (.var 5) (.var 5)) (.lit true)))))
def fsE10 : BE := (.and (.cmp .eql (.var 4) (.var 4)) (.and (.cmp .eql (.ap 1 (.ap 1 (.ap 1 (.ap 1 (.ap 1 (.ap 1 (.ap 1 (.lit 5) (.ap 3 (.mn (.lit 68719476736) (.ap 1 (.lit 10) (.ap 4 (.lit 64424) (.mx (.pl .sub (.var 5) (.lit 12884901888)) (.lit 0)) (.lit 0)) (.lit 0))) (.lit (-2)) (.lit 0)) (.lit 0)) (.ap 3 (.mn (.lit 68719476736) (.ap 1 (.lit 10) (.ap 4 (.lit 64424) (.mx (.ap 2 (.var 5) (.lit 8589934592) (.lit 0)) (.lit 0)) (.lit 0)) (.lit 0))) (.lit (-3)) (.lit 0)) (.lit 0)) (.ap 3 (.mn (.lit 68719476736) (.ap 1 (.lit 10) (.ap 4 (.lit 64424) (.mx (.ap 2 (.var 5) (.lit 4294967296) (.lit 0)) (.lit 0)) (.lit 0)) (.lit 0))) (.lit (-4)) (.lit 0)) (.lit 0)) (.ap 3 (.mn (.lit 68719476736) (.ap 1 (.lit 10) (.ap 4 (.lit 64424) (.mx (.ap 2 (.var 5) (.lit 0) (.lit 0)) (.lit 0)) (.lit 0)) (.lit 0))) (.lit (-5)) (.lit 0)) (.lit 0)) (.lit 1073741824) (.lit 0)) (.lit 536870912) (.lit 0)) (.lit 268435456) (.lit 0)) (.ap 1 (.ap 1 (.ap 1 (.ap 1 (.ap 1 (.ap 1 (.ap 1 (.lit 5) (.ap 3 (.mn (.lit 68719476736) (.ap 1 (.lit 10) (.ap 4 (.lit 64424) (.mx (.pl .sub (.var 5) (.lit 12884901888)) (.lit 0)) (.lit 0)) (.lit 0))) (.lit (-2)) (.lit 0)) (.lit 0)) (.ap 3 (.mn (.lit 68719476736) (.ap 1 (.lit 10) (.ap 4 (.lit 64424) (.mx (.ap 2 (.var 5) (.lit 8589934592) (.lit 0)) (.lit 0)) (.lit 0)) (.lit 0))) (.lit (-3)) (.lit 0)) (.lit 0)) (.ap 3 (.mn (.lit 68719476736) (.ap 1 (.lit 10) (.ap 4 (.lit 64424) (.mx (.ap 2 (.var 5) (.lit 4294967296) (.lit 0)) (.lit 0)) (.lit 0)) (.lit 0))) (.lit (-4)) (.lit 0)) (.lit 0)) (.ap 3 (.mn (.lit 68719476736) (.ap 1 (.lit 10) (.ap 4 (.lit 64424) (.mx (.ap 2 (.var 5) (.lit 0) (.lit 0)) (.lit 0)) (.lit 0)) (.lit 0))) (.lit (-5)) (.lit 0)) (.lit 0)) (.lit 1073741824) (.lit 0)) (.lit 536870912) (.lit 0)) (.lit 268435456) (.lit 0))) (.and (.cmp .eql (.mx (.ap 9 (.pl .mul (.lit 1) (.mn (.ap 5 (.lit 1) (.pl .sub (.ar .add .u64 (.ar .add .u64 (.pl .add (.pl .add (.lit 0) (.var 8)) (.var 8)) (.var 8)) (.var 8)) (.lit 0)) (.lit 4)) (.lit 9223372036854775807))) (.lit 0) (.lit 0)) (.lit 4096)) (.mx (.ap 9 (.pl .mul (.lit 1) (.mn (.ap 5 (.lit 1) (.pl .sub (.ar .add .u64 (.ar .add .u64 (.pl .add (.pl .add (.lit 0) (.var 8)) (.var 8)) (.var 8)) (.var 8)) (.lit 0)) (.lit 4)) (.lit 9223372036854775807))) (.lit 0) (.lit 0)) (.lit 4096))) (.and (.cmp .eql (.var 5) (.var 5)) (.lit true)))))
def fsT : Tree :=
(.node (.cmp .lss (.pl .add (.pl .add (.lit 0) (.var 8)) (.var 8)) (.pl .add (.lit 0) (.var 8)))
 .dead
 (.node (.cmp .lss (.ar .add .u64 (.pl .add (.pl .add (.lit 0) (.var 8)) (.var 8)) (.var 8)) (.pl .add (.pl .add (.lit 0) (.var 8)) (.var 8)))
 (.node (.cmp .lss (.ar .add .u64 (.ar .add .u64 (.pl .add (.pl .add (.lit 0) (.var 8)) (.var 8)) (.var 8)) (.var 8)) (.ar .add .u64 (.pl .add (.pl .add (.lit 0) (.var 8)) (.var 8)) (.var 8)))
 .dead
 (.node (.cmp .lss (.pl .sub (.var 5) (.lit 12884901888)) (.lit 549755813888))
 (.leaf (.bool (.lit true)))
 (.leaf (.bool fsE10))))
 (.node (.cmp .lss (.ar .add .u64 (.ar .add .u64 (.pl .add (.pl .add (.lit 0) (.var 8)) (.var 8)) (.var 8)) (.var 8)) (.ar .add .u64 (.pl .add (.pl .add (.lit 0) (.var 8)) (.var 8)) (.var 8)))
 (.node (.cmp .lss (.pl .sub (.var 5) (.lit 12884901888)) (.lit 549755813888))
 (.leaf (.bool (.lit true)))
 (.leaf (.bool fsE01)))
 (.node (.cmp .lss (.pl .sub (.var 5) (.lit 12884901888)) (.lit 549755813888))
 (.leaf (.bool (.lit true)))
 (.leaf (.bool fsE00))))))
def reflB : BE → Bool
  | .lit b => b
  | .and a b => reflB a && reflB b
  | .cmp .eql a b => a.beq b
  | _ => false
theorem reflB_den {ρ : Env} : ∀ (c : BE), reflB c = true → c.den ρ = true
  | .lit b, h => h
  | .and a b, h => by
    simp only [reflB, Bool.and_eq_true] at h
    simp only [BE.den, reflB_den a h.1, reflB_den b h.2, Bool.and_self]
  | .cmp op a b, h => by
    cases op <;> simp only [reflB, Bool.false_eq_true] at h
    rw [IE.beq_eq h]
    exact beq_self_eq_true _
theorem fs_e {ρ : Env} (c d : BE) (h : reflB d = true) : good ρ (.node c (.leaf (.bool (.lit true))) (.leaf (.bool d))) = true := by
  show cond (c.den ρ) true (d.den ρ) = true
  rw [reflB_den d h, Bool.cond_self]
theorem fs_good {ρ : Env} (h : 4294967296 ≤ ρ.i 8 ∧ ρ.i 8 ≤ 9223372036854775807) : good ρ fsT = true := by
  have e3 : IE.den ρ (.ar .add .u64 (.pl .add (.pl .add (.lit 0) (.var 8)) (.var 8)) (.var 8)) = (3 * ρ.i 8) % 18446744073709551616 := by
    show IntKind.u64.wrap (0 + ρ.i 8 + ρ.i 8 + ρ.i 8) = _
    rw [IntKind.wrap_u64]; omega
  have e4 : IE.den ρ (.ar .add .u64 (.ar .add .u64 (.pl .add (.pl .add (.lit 0) (.var 8)) (.var 8)) (.var 8)) (.var 8)) = (4 * ρ.i 8) % 18446744073709551616 := by
    show IntKind.u64.wrap (IE.den ρ (.ar .add .u64 (.pl .add (.pl .add (.lit 0) (.var 8)) (.var 8)) (.var 8)) + ρ.i 8) = _
    rw [e3, IntKind.wrap_u64]; omega
  have e2 : IE.den ρ (.pl .add (.pl .add (.lit 0) (.var 8)) (.var 8)) = 2 * ρ.i 8 := by
    show 0 + ρ.i 8 + ρ.i 8 = _
    omega
  have e1 : IE.den ρ (.pl .add (.lit 0) (.var 8)) = ρ.i 8 := by
    show 0 + ρ.i 8 = _
    omega
  refine good_not (by rw [e2, e1]; omega) ?_
  by_cases h3 : IE.den ρ (.ar .add .u64 (.pl .add (.pl .add (.lit 0) (.var 8)) (.var 8)) (.var 8)) < IE.den ρ (.pl .add (.pl .add (.lit 0) (.var 8)) (.var 8))
  · refine good_is h3 (good_not ?_ (fs_e _ fsE10 (by kernel_rfl)))
    rw [e3, e2] at h3
    rw [e4, e3]
    clear e1 e2 e3 e4
    generalize ρ.i 8 = m at h h3
    have q3 : 3 * m % 18446744073709551616 = 3 * m - 18446744073709551616 := by omega
    have q4 : 4 * m % 18446744073709551616 = 4 * m - 18446744073709551616 := by omega
    rw [q3, q4]; omega
  · refine good_not h3 ?_
    by_cases h4 : IE.den ρ (.ar .add .u64 (.ar .add .u64 (.pl .add (.pl .add (.lit 0) (.var 8)) (.var 8)) (.var 8)) (.var 8)) < IE.den ρ (.ar .add .u64 (.pl .add (.pl .add (.lit 0) (.var 8)) (.var 8)) (.var 8))
    · exact good_is h4 (fs_e _ fsE01 (by kernel_rfl))
    · exact good_not h4 (fs_e _ fsE00 (by kernel_rfl))
theorem filterSpikes_names {off far tot late : Int} (h0 : -2147483648 ≤ off ∧ off ≤ 2147483647) (h1 : 0 ≤ far ∧ far ≤ 65535) (h2 : -2147483648 ≤ tot ∧ tot ≤ 2147483647) (h3 : 0 ≤ late ∧ late ≤ 255) {ρ : Env} (hap : ρ.a = apN)
    (i0 : ρ.i 0 = off) (i1 : ρ.i 1 = far) (i2 : ρ.i 2 = tot) (i3 : ρ.i 3 = late) (i4 : ρ.i 4 = off + (far + 1) * 4294967296 - tot) (i5 : ρ.i 5 = (5 + late) * 4294967296) (i6 : ρ.i 6 = off - tot) (i7 : ρ.i 7 = (far + 1) * 4294967296) (i8 : ρ.i 8 = apN 4 ((far + 1) * 4294967296) ((far + 1) * 4294967296) 0) :
    (∀ p ∈ fsN, p.1.den ρ = p.2.den ρ) ∧ (∀ p ∈ fsX, p.1.den ρ = p.2.den ρ) := by
  have a2 : ∀ x y z, ρ.a 2 x y z = sat (x - y) := fun x y z => by rw [hap]; rfl
  refine ⟨fun p hp => ?_, fun p hp => ?_⟩
  · simp only [fsN, List.mem_cons, List.not_mem_nil, or_false] at hp
    rcases hp with rfl | rfl | rfl | rfl | rfl | rfl | rfl | rfl | rfl | rfl | rfl <;> simp only [IE.den, a2, i0, i2, i4, i5, i6, i7, i8, plI]
    · unfold sat; omega
    · unfold sat; omega
    · unfold sat; omega
    · unfold sat; omega
    · unfold sat; omega
    · unfold sat; omega
    · unfold sat; omega
    · rw [hap]
      show sat (nAbs ((far + 1) * 4294967296)) = _
      unfold nAbs sat
      rw [if_neg (by omega)]
      omega
    · rw [hap]
    · unfold sat; omega
    · unfold sat; omega
  · simp only [fsX, List.mem_cons, List.not_mem_nil, or_false] at hp
    rcases hp with rfl | rfl | rfl <;> simp only [IE.den, i0, i1, i2, i3, i4, i5, plI]
    rw [Int.add_comm]
theorem fs_m {far : Int} (h1 : 0 ≤ far ∧ far ≤ 65535) : 4294967296 ≤ apN 4 ((far + 1) * 4294967296) ((far + 1) * 4294967296) 0 ∧ apN 4 ((far + 1) * 4294967296) ((far + 1) * 4294967296) 0 ≤ 9223372036854775807 := by
  show 4294967296 ≤ sat ((far + 1) * 4294967296 * ((far + 1) * 4294967296) / 4294967296) ∧ sat ((far + 1) * 4294967296 * ((far + 1) * 4294967296) / 4294967296) ≤ 9223372036854775807
  have e : (far + 1) * 4294967296 * ((far + 1) * 4294967296) / 4294967296 = (far + 1) * 4294967296 * (far + 1) := by
    rw [← Int.mul_assoc, Int.mul_ediv_cancel _ (by decide)]
  rw [e]
  have k : (far + 1) * 4294967296 * 1 ≤ (far + 1) * 4294967296 * (far + 1) := Int.mul_le_mul_of_nonneg_left (by omega) (by omega)
  unfold sat; omega
end Go.Proofs.Ythhipnhnpjhaaaa
