/- Several texts in one. -/
import Derived.Test.YtopgidgkpafeeaaM24
import Derived.Test.YtopgidgkpafeeaaM25
/- The walk over setup.Check. -/
namespace Go.Proofs.Ytopgidgkpafeeaa
open Go.RowKit
set_option linter.unusedVariables false
set_option maxRecDepth 100000

def zero12 : Array Value := #[.int .i64 0, .int .i64 0, .int .i64 0, .int .i64 0, .int .i64 0, .int .i64 0, .int .i64 0, .int .i64 0, .int .i64 0, .int .i64 0, .int .i64 0, .int .i64 0]
def zero13 : Array Value := #[.int .i64 0, .int .i64 0, .int .i64 0, .int .i64 0, .int .i64 0, .int .i64 0, .int .i64 0, .int .i64 0, .int .i64 0, .int .i64 0, .int .i64 0, .int .i64 0, .int .i64 0]
/-- what Check tells: what is set, the first fault's number, its error -/
def Cfg.check (c : Cfg) : Array Value × Int × Int := match (List.range 13).find? (fun i => c.err i != 0) with
  | none => (c.set, 0, 0)
  | some i => (zero12, i, c.err i)
theorem find_first {p : Nat → Bool} {n k : Nat} (hk : k < n) (hp : p k = true) (hl : ∀ j, j < k → p j = false) : (List.range n).find? p = some k := by
  rw [List.find?_range_eq_some]
  exact ⟨hp, by simpa using hk, fun j hj => by simpa using hl j hj⟩
theorem Cfg.check_bad {c : Cfg} {k : Nat} (hk : k < 13) (hp : c.err k ≠ 0) (hl : ∀ j, j < k → c.err j = 0) : c.check = (zero12, (k : Int), c.err k) := by
  rw [Cfg.check, find_first hk (by simpa using hp) (fun j hj => by simp [hl j hj])]
theorem Cfg.check_good {c : Cfg} (hl : ∀ j, j < 13 → c.err j = 0) : c.check = (c.set, 0, 0) := by
  have : (List.range 13).find? (fun i => c.err i != 0) = none := by
    rw [List.find?_eq_none]
    intro j hj
    simp [hl j (by simpa using hj)]
  rw [Cfg.check, this]
theorem zero_one : zero12.all (·.oneCell') = true := by simp [zero12, Value.oneCell']
theorem set_one (c : Cfg) : c.set.all (·.oneCell') = true := by simp [Cfg.set, Value.oneCell']
theorem cells_one (c : Cfg) : c.cells.all (·.oneCell') = true := by simp [Cfg.cells, Value.oneCell']
/-- three results, the first one a row of cells -/
theorem results_row_two {P : Program} {fn : Func} {p q r : Tmp} {ty : TypeId} (h : fn.results = #[.cell p ty, .tmp q, .tmp r]) (tmps : Array Value) (w : World) (g : Nat) (t : TypeId) (cs : Array Value) (fr : Nat × Nat) (d : TypeDesc)
    (hp : tmps.getD p undef = .pointer (some ⟨g, 0, none⟩)) (hg : w.heap[g]? = some (.cells cs t fr)) (hu : P.underlying ty = some d) (hd : (match d with | .struct _ | .array _ _ => true | _ => false) = true) (hi : (P.info? ty).map (·.size) = some cs.size) {v2 v3 : Value} (hq : tmps.getD q undef = v2) (hr : tmps.getD r undef = v3) :
    (results fn tmps).run P w = .ok (.tuple #[.agg cs, v2, v3]) w := by
  have hq' : tmps[q]?.getD undef = v2 := by simpa using hq
  have hr' : tmps[r]?.getD undef = v3 := by simpa using hr
  have hp' : tmps[p]?.getD undef = .pointer (some ⟨g, 0, none⟩) := by simpa using hp
  simp [results, h, hp', hq', hr', asAddr, run_loadVar_row w g t ty cs fr d hg hu hd hi]
theorem ret_three {k k' : IntKind} {x x' : Array Value} {a b a' b' : Int} (hx : x = x') (h : a = b) (h' : a' = b') : Ending.returned (.tuple #[.agg x, .int k a, .int k' a']) = .returned (.tuple #[.agg x', .int k b, .int k' b']) := by rw [hx, h, h']

theorem idx (c : Cfg) (k : Nat) (hk : k < 13) (w : World) : (Instr.index 126 (.agg c.errs) (.int .i64 (k : Int))).run Try.prog w = .ok (.int .i64 (c.err k)) w := by
  by_cases e0 : k = 0
  · subst e0; kernel_rfl
  by_cases e1 : k = 1
  · subst e1; kernel_rfl
  by_cases e2 : k = 2
  · subst e2; kernel_rfl
  by_cases e3 : k = 3
  · subst e3; kernel_rfl
  by_cases e4 : k = 4
  · subst e4; kernel_rfl
  by_cases e5 : k = 5
  · subst e5; kernel_rfl
  by_cases e6 : k = 6
  · subst e6; kernel_rfl
  by_cases e7 : k = 7
  · subst e7; kernel_rfl
  by_cases e8 : k = 8
  · subst e8; kernel_rfl
  by_cases e9 : k = 9
  · subst e9; kernel_rfl
  by_cases e10 : k = 10
  · subst e10; kernel_rfl
  by_cases e11 : k = 11
  · subst e11; kernel_rfl
  by_cases e12 : k = 12
  · subst e12; kernel_rfl
  omega
set_option maxHeartbeats 4000000 in
theorem check_any (c : Cfg) (hc : c.ok) (w : World) : Calls Try.prog 63 #[.agg c.cells] w fun e w' => e = .returned (.tuple #[.agg c.check.1, .int .i64 c.check.2.1, .int .i64 c.check.2.2]) ∧ Below w.heap.size w w' := by
  go_enter Try.func63, Try.ntmps63
  go_wp2_with (first
    | (refine wpList_load_row rfl 104 (.tmp 1) rfl _ rfl 104 c.cells (0, 0) _ ?hg1 Try.underlying104 rfl (by kernel_rfl) ?_; case hg1 => exact heap_alloc2_old _ _ _)
    | (refine wpList_load_row rfl 126 (.tmp 6) rfl _ rfl 126 c.errs (0, 0) _ ?hgz Try.underlying126 rfl (by kernel_rfl) ?_; case hgz => exact heap_alloc2_new _ _ _)
    | (with_reducible refine (faults_any c hc _).mono ?_; rintro e W1 ⟨rfl, hb1⟩; have st1 := fun o => store_first (P := Try.prog) W1 zero12 c.set 23 o rfl (set_one c); have st2 := fun a => store_last (P := Try.prog) W1 a zero13 c.errs 126 rfl (errs_one c); simp only [zero12, zero13] at st1 st2))
  have hz := hb1.size
  simp only [World.size_alloc] at hz
  have f1 : ((W1.alloc (.cells c.set 23)).alloc (.cells c.errs 126)).heap[w.heap.size + 1]? = some (.cells zero12 23 (0, 0)) := by
    rw [Below.heap_alloc _ _ _ (by simp only [World.size_alloc]; omega), Below.heap_alloc _ _ _ (by omega), hb1.block _ (by simp only [World.size_alloc]; omega)]
    exact heap_alloc2_new _ _ _
  have f2 : ((W1.alloc (.cells c.set 23)).alloc (.cells c.errs 126)).heap[W1.heap.size]? = some (.cells c.set 23 (0, 0)) := heap_alloc2_old _ _ _
  have f3 : Below w.heap.size w ((W1.alloc (.cells c.set 23)).alloc (.cells c.errs 126)) :=
    ((((((Below.refl _ _).alloc (Nat.le_refl _) _).alloc (by simp) _).trans (hb1.mono (by simp only [World.size_alloc]; omega))).alloc (by omega) _).alloc (by simp only [World.size_alloc]; omega) _)
  generalize (W1.alloc (.cells c.set 23)).alloc (.cells c.errs 126) = W3 at f1 f2 f3 ⊢
  clear st1 st2 hb1
  have H1 := Lib.hid f1
  have H2 := Lib.hid f2
  clear f1 f2
  go_loop [7, 8, 15] (fun x y i => ∃ k : Nat, k ≤ 13 ∧ i = .int .i64 k ∧ Hid (∀ j, j < k → c.err j = 0)) (fun _ _ i => 13 - (intOf i).toNat)
  case atStart => exact ⟨0, by omega, rfl, Lib.hid (fun j hj => by omega)⟩
  case round =>
    obtain ⟨k, hk, rfl, HL⟩ := hrel
    by_cases hlt : k < 13
    · have hi := idx c k hlt
      by_cases he : c.err k = 0
      · have he' : (c.err k != 0) = false := by simpa using he
        have HE := Lib.hid he
        clear he
        go_wp2_with fail
        refine ⟨⟨k + 1, by omega, by go_num, Lib.hid fun j hj => ?_⟩, by simp [intOf]; omega⟩
        by_cases hjk : j = k
        · subst hjk; exact HE.out
        · exact HL.out j (by omega)
      · have he' : (c.err k != 0) = true := by simpa using he
        have HC := Lib.hid (Cfg.check_bad hlt he HL.out)
        clear he
        go_wp2_with (refine wpList_store_row rfl 23 (.tmp 2) (.tmp 21) rfl _ zero12 rfl rfl _ _ H1.out (by kernel_rfl) rfl zero_one ?_)
        exact bodyPost_ret (v := .tuple #[.agg zero12, .int .i64 k, .int .i64 (c.err k)]) (results_row_two rfl _ _ (w.heap.size + 1) _ _ _ _ rfl (setRow_heap _ _ _ _ _ _ H1.out) Try.underlying23 rfl (by kernel_rfl) rfl rfl) rfl ⟨ret_three (by rw [HC.out]) (by rw [HC.out]) (by rw [HC.out]), below_setRow f3 (by omega) _⟩
    · obtain rfl : k = 13 := by omega
      have HC := Lib.hid (Cfg.check_good HL.out)
      go_wp2_with (first | (refine wpList_load_row rfl 23 (.tmp 5) rfl _ rfl _ _ _ _ H2.out Try.underlying23 rfl (by kernel_rfl) ?_) | (refine wpList_store_row rfl 23 (.tmp 2) (.tmp 25) rfl _ c.set rfl rfl _ _ H1.out (by kernel_rfl) rfl (set_one c) ?_))
      exact bodyPost_ret (v := .tuple #[.agg c.set, .int .i64 0, .int .i64 0]) (results_row_two rfl _ _ (w.heap.size + 1) _ _ _ _ rfl (setRow_heap _ _ _ _ _ _ H1.out) Try.underlying23 rfl (by kernel_rfl) rfl rfl) rfl ⟨ret_three (by rw [HC.out]) (by rw [HC.out]) (by rw [HC.out]), below_setRow f3 (by omega) _⟩
end Go.Proofs.Ytopgidgkpafeeaa
/- The walks over setup.Name and setup.Faults. -/
namespace Go.Proofs.Ytopgidgkpafeeaa
open Go.RowKit
set_option linter.unusedVariables false
set_option maxRecDepth 100000


end Go.Proofs.Ytopgidgkpafeeaa
/- What is standard: the configuration, and what is set by it. -/
namespace Go.Proofs.Ytopgidgkpafeeaa
open Go.RowKit
set_option linter.unusedVariables false
set_option maxRecDepth 100000

theorem bnext {w w1 w2 : World} (h : Below w.heap.size w w1) (h2 : Below w1.heap.size w1 w2) : Below w.heap.size w w2 := h.trans (h2.mono h.size)
theorem balloc {w w1 : World} (h : Below w.heap.size w w1) (o : Obj) : Below w.heap.size w (w1.alloc o) := h.alloc h.size o
theorem bcell {W w1 : World} (hb : Below W.heap.size W w1) : (∀ b o, b < W.heap.size → w1.cell? ⟨b, o, none⟩ = W.cell? ⟨b, o, none⟩) ∧ (∀ b o, b < W.heap.size → w1.frozen? ⟨b, o, none⟩ = W.frozen? ⟨b, o, none⟩) :=
  ⟨fun b o h => hb.cell (p := ⟨b, o, none⟩) h, fun b o h => hb.frozen (p := ⟨b, o, none⟩) h⟩
theorem bset {w w1 : World} (h : Below w.heap.size w w1) {a : Addr} (ha : w.heap.size ≤ a.block) (v : Value) : Below w.heap.size w (w1.setCell a v) := h.setCell ha v

def stdCfg : Cfg := ⟨4593671619917905920, 4643985272004935680, 4652007308841189376, 4557750909289998844, 4534972062662729065, 4609434218613702656, 4616189618054758400, 6, 10, 0, 1, 3⟩
theorem std_ok : stdCfg.ok := ⟨by decide, by decide, by decide, by decide, by decide, by decide, by decide⟩
theorem std_cells : stc12 = stdCfg.cells := rfl
theorem std_fld0 : stdCfg.fld 0 = (536870912, 0) := by decide +kernel
theorem std_fld1 : stdCfg.fld 1 = (1288490188800, 0) := by decide +kernel
theorem std_fld2 : stdCfg.fld 2 = (4294967296000, 0) := by decide +kernel
theorem std_fld3 : stdCfg.fld 3 = (2147483, 0) := by decide +kernel
theorem std_fld4 : stdCfg.fld 4 = (64424, 0) := by decide +kernel
theorem std_fld5 : stdCfg.fld 5 = (6442450944, 0) := by decide +kernel
theorem std_fld6 : stdCfg.fld 6 = (17179869184, 0) := by decide +kernel
theorem std_fld7 : stdCfg.fld 7 = (6, 0) := by decide +kernel
theorem std_fld8 : stdCfg.fld 8 = (10, 0) := by decide +kernel
theorem std_fld9 : stdCfg.fld 9 = (0, 0) := by decide +kernel
theorem std_fld10 : stdCfg.fld 10 = (1, 0) := by decide +kernel
theorem std_fld11 : stdCfg.fld 11 = (3, 0) := by decide +kernel
theorem std_e3 : stdCfg.e3 = 0 := by decide +kernel
theorem std_e9 : stdCfg.e9 = 0 := by decide +kernel
theorem std_err : ∀ j, j < 13 → stdCfg.err j = 0 := by
  intro j hj
  by_cases c0 : j = 0
  · subst c0; rfl
  by_cases c1 : j = 1
  · subst c1; show (stdCfg.fld 0).2 = 0; rw [std_fld0]
  by_cases c2 : j = 2
  · subst c2; show (stdCfg.fld 1).2 = 0; rw [std_fld1]
  by_cases c3 : j = 3
  · subst c3; exact std_e3
  by_cases c4 : j = 4
  · subst c4; show (stdCfg.fld 3).2 = 0; rw [std_fld3]
  by_cases c5 : j = 5
  · subst c5; show (stdCfg.fld 4).2 = 0; rw [std_fld4]
  by_cases c6 : j = 6
  · subst c6; show (stdCfg.fld 5).2 = 0; rw [std_fld5]
  by_cases c7 : j = 7
  · subst c7; show (stdCfg.fld 6).2 = 0; rw [std_fld6]
  by_cases c8 : j = 8
  · subst c8; show (stdCfg.fld 7).2 = 0; rw [std_fld7]
  by_cases c9 : j = 9
  · subst c9; exact std_e9
  by_cases c10 : j = 10
  · subst c10; show (stdCfg.fld 9).2 = 0; rw [std_fld9]
  by_cases c11 : j = 11
  · subst c11; show (stdCfg.fld 10).2 = 0; rw [std_fld10]
  by_cases c12 : j = 12
  · subst c12; show (stdCfg.fld 11).2 = 0; rw [std_fld11]
  omega
/-- what is set as a rule -/
theorem std_set : stdCfg.set = #[.int .i64 536870912, .int .i64 1288490188800, .int .i64 4294967296000, .int .i64 2147483, .int .i64 64424, .int .i64 6442450944, .int .i64 17179869184, .int .i64 6, .int .i64 10, .int .i64 0, .int .i64 1, .int .i64 3] := by
  simp only [Cfg.set, std_fld0, std_fld1, std_fld2, std_fld3, std_fld4, std_fld5, std_fld6, std_fld7, std_fld8, std_fld9, std_fld10, std_fld11]
theorem std_check : stdCfg.check = (#[.int .i64 536870912, .int .i64 1288490188800, .int .i64 4294967296000, .int .i64 2147483, .int .i64 64424, .int .i64 6442450944, .int .i64 17179869184, .int .i64 6, .int .i64 10, .int .i64 0, .int .i64 1, .int .i64 3], 0, 0) := by rw [Cfg.check_good std_err, std_set]

end Go.Proofs.Ytopgidgkpafeeaa
