/- Several texts in one. -/
import Derived.Test.YtmgfnejiienghaaM6
import Derived.Test.YtmgfnejiienghaaM7
/- The walk over setup.Check. -/
namespace Go.Proofs.Ytmgfnejiienghaa
open Go.RowKit
set_option linter.unusedVariables false
set_option maxRecDepth 100000

def zero12 : Array Value := #[.int .i64 0, .int .i64 0, .int .i64 0, .int .i64 0, .int .i64 0, .int .i64 0, .int .i64 0, .int .i64 0, .int .i64 0, .int .i64 0, .int .i64 0, .int .i64 0]
def zero13 : Array Value := #[.int .i64 0, .int .i64 0, .int .i64 0, .int .i64 0, .int .i64 0, .int .i64 0, .int .i64 0, .int .i64 0, .int .i64 0, .int .i64 0, .int .i64 0, .int .i64 0, .int .i64 0]
/-- what Check tells: what is set, the first fault's number, its error -/
def Cfg.check (c : Cfg) : Array Value × Int × Int := match (List.range 13).find? (fun i => c.err i != 0) with
  | none => (c.set, 0, 0)
  | some i => (zero12, i, c.err i)
theorem find_first {p : Nat → Bool} {n k : Nat} (hk : k < n) (hp : p k = true) (hl : ∀ j, j < k → p j = false) : (List.range n).find? p = some k := by
  rw [List.find?_range_eq_some]
  exact ⟨hp, by simpa using hk, fun j hj => by simpa using hl j hj⟩
theorem Cfg.check_bad {c : Cfg} {k : Nat} (hk : k < 13) (hp : c.err k ≠ 0) (hl : ∀ j, j < k → c.err j = 0) : c.check = (zero12, (k : Int), c.err k) := by
  rw [Cfg.check, find_first hk (by simpa using hp) (fun j hj => by simp [hl j hj])]
theorem Cfg.check_good {c : Cfg} (hl : ∀ j, j < 13 → c.err j = 0) : c.check = (c.set, 0, 0) := by
  have : (List.range 13).find? (fun i => c.err i != 0) = none := by
    rw [List.find?_eq_none]
    intro j hj
    simp [hl j (by simpa using hj)]
  rw [Cfg.check, this]
theorem zero_one : zero12.all (·.oneCell') = true := by simp [zero12, Value.oneCell']
theorem set_one (c : Cfg) : c.set.all (·.oneCell') = true := by simp [Cfg.set, Value.oneCell']
theorem cells_one (c : Cfg) : c.cells.all (·.oneCell') = true := by simp [Cfg.cells, Value.oneCell']
/-- three results, the first one a row of cells -/
theorem results_row_two {P : Program} {fn : Func} {p q r : Tmp} {ty : TypeId} (h : fn.results = #[.cell p ty, .tmp q, .tmp r]) (tmps : Array Value) (w : World) (g : Nat) (t : TypeId) (cs : Array Value) (fr : Nat × Nat) (d : TypeDesc)
    (hp : tmps.getD p undef = .pointer (some ⟨g, 0, none⟩)) (hg : w.heap[g]? = some (.cells cs t fr)) (hu : P.underlying ty = some d) (hd : (match d with | .struct _ | .array _ _ => true | _ => false) = true) (hi : (P.info? ty).map (·.size) = some cs.size) {v2 v3 : Value} (hq : tmps.getD q undef = v2) (hr : tmps.getD r undef = v3) :
    (results fn tmps).run P w = .ok (.tuple #[.agg cs, v2, v3]) w := by
  have hq' : tmps[q]?.getD undef = v2 := by simpa using hq
  have hr' : tmps[r]?.getD undef = v3 := by simpa using hr
  have hp' : tmps[p]?.getD undef = .pointer (some ⟨g, 0, none⟩) := by simpa using hp
  simp [results, h, hp', hq', hr', asAddr, run_loadVar_row w g t ty cs fr d hg hu hd hi]
theorem ret_three {k k' : IntKind} {x x' : Array Value} {a b a' b' : Int} (hx : x = x') (h : a = b) (h' : a' = b') : Ending.returned (.tuple #[.agg x, .int k a, .int k' a']) = .returned (.tuple #[.agg x', .int k b, .int k' b']) := by rw [hx, h, h']

theorem idx (c : Cfg) (k : Nat) (hk : k < 13) (w : World) : (Instr.index 86 (.agg c.errs) (.int .i64 (k : Int))).run Try.prog w = .ok (.int .i64 (c.err k)) w := by
  by_cases e0 : k = 0
  · subst e0; kernel_rfl
  by_cases e1 : k = 1
  · subst e1; kernel_rfl
  by_cases e2 : k = 2
  · subst e2; kernel_rfl
  by_cases e3 : k = 3
  · subst e3; kernel_rfl
  by_cases e4 : k = 4
  · subst e4; kernel_rfl
  by_cases e5 : k = 5
  · subst e5; kernel_rfl
  by_cases e6 : k = 6
  · subst e6; kernel_rfl
  by_cases e7 : k = 7
  · subst e7; kernel_rfl
  by_cases e8 : k = 8
  · subst e8; kernel_rfl
  by_cases e9 : k = 9
  · subst e9; kernel_rfl
  by_cases e10 : k = 10
  · subst e10; kernel_rfl
  by_cases e11 : k = 11
  · subst e11; kernel_rfl
  by_cases e12 : k = 12
  · subst e12; kernel_rfl
  omega
set_option maxHeartbeats 4000000 in
theorem check_any (c : Cfg) (hc : c.ok) (w : World) : Calls Try.prog 18 #[.agg c.cells] w fun e w' => e = .returned (.tuple #[.agg c.check.1, .int .i64 c.check.2.1, .int .i64 c.check.2.2]) ∧ Below w.heap.size w w' := by
  go_enter Try.func18, Try.ntmps18
  go_wp2_with (first
    | (refine wpList_load_row rfl 24 (.tmp 1) rfl _ rfl 24 c.cells (0, 0) _ ?hg1 Try.underlying24 rfl (by kernel_rfl) ?_; case hg1 => exact heap_alloc2_old _ _ _)
    | (refine wpList_load_row rfl 86 (.tmp 6) rfl _ rfl 86 c.errs (0, 0) _ ?hgz Try.underlying86 rfl (by kernel_rfl) ?_; case hgz => exact heap_alloc2_new _ _ _)
    | (with_reducible refine (faults_any c hc _).mono ?_; rintro e W1 ⟨rfl, hb1⟩; have st1 := fun o => store_first (P := Try.prog) W1 zero12 c.set 26 o rfl (set_one c); have st2 := fun a => store_last (P := Try.prog) W1 a zero13 c.errs 86 rfl (errs_one c); simp only [zero12, zero13] at st1 st2))
  have hz := hb1.size
  simp only [World.size_alloc] at hz
  have f1 : ((W1.alloc (.cells c.set 26)).alloc (.cells c.errs 86)).heap[w.heap.size + 1]? = some (.cells zero12 26 (0, 0)) := by
    rw [Below.heap_alloc _ _ _ (by simp only [World.size_alloc]; omega), Below.heap_alloc _ _ _ (by omega), hb1.block _ (by simp only [World.size_alloc]; omega)]
    exact heap_alloc2_new _ _ _
  have f2 : ((W1.alloc (.cells c.set 26)).alloc (.cells c.errs 86)).heap[W1.heap.size]? = some (.cells c.set 26 (0, 0)) := heap_alloc2_old _ _ _
  have f3 : Below w.heap.size w ((W1.alloc (.cells c.set 26)).alloc (.cells c.errs 86)) :=
    ((((((Below.refl _ _).alloc (Nat.le_refl _) _).alloc (by simp) _).trans (hb1.mono (by simp only [World.size_alloc]; omega))).alloc (by omega) _).alloc (by simp only [World.size_alloc]; omega) _)
  generalize (W1.alloc (.cells c.set 26)).alloc (.cells c.errs 86) = W3 at f1 f2 f3 ⊢
  clear st1 st2 hb1
  have H1 := Lib.hid f1
  have H2 := Lib.hid f2
  clear f1 f2
  go_loop [7, 8, 15] (fun x y i => ∃ k : Nat, k ≤ 13 ∧ i = .int .i64 k ∧ Hid (∀ j, j < k → c.err j = 0)) (fun _ _ i => 13 - (intOf i).toNat)
  case atStart => exact ⟨0, by omega, rfl, Lib.hid (fun j hj => by omega)⟩
  case round =>
    obtain ⟨k, hk, rfl, HL⟩ := hrel
    by_cases hlt : k < 13
    · have hi := idx c k hlt
      by_cases he : c.err k = 0
      · have he' : (c.err k != 0) = false := by simpa using he
        have HE := Lib.hid he
        clear he
        go_wp2_with fail
        refine ⟨⟨k + 1, by omega, by go_num, Lib.hid fun j hj => ?_⟩, by simp [intOf]; omega⟩
        by_cases hjk : j = k
        · subst hjk; exact HE.out
        · exact HL.out j (by omega)
      · have he' : (c.err k != 0) = true := by simpa using he
        have HC := Lib.hid (Cfg.check_bad hlt he HL.out)
        clear he
        go_wp2_with (refine wpList_store_row rfl 26 (.tmp 2) (.tmp 21) rfl _ zero12 rfl rfl _ _ H1.out (by kernel_rfl) rfl zero_one ?_)
        exact bodyPost_ret (v := .tuple #[.agg zero12, .int .i64 k, .int .i64 (c.err k)]) (results_row_two rfl _ _ (w.heap.size + 1) _ _ _ _ rfl (setRow_heap _ _ _ _ _ _ H1.out) Try.underlying26 rfl (by kernel_rfl) rfl rfl) rfl ⟨ret_three (by rw [HC.out]) (by rw [HC.out]) (by rw [HC.out]), below_setRow f3 (by omega) _⟩
    · obtain rfl : k = 13 := by omega
      have HC := Lib.hid (Cfg.check_good HL.out)
      go_wp2_with (first | (refine wpList_load_row rfl 26 (.tmp 5) rfl _ rfl _ _ _ _ H2.out Try.underlying26 rfl (by kernel_rfl) ?_) | (refine wpList_store_row rfl 26 (.tmp 2) (.tmp 25) rfl _ c.set rfl rfl _ _ H1.out (by kernel_rfl) rfl (set_one c) ?_))
      exact bodyPost_ret (v := .tuple #[.agg c.set, .int .i64 0, .int .i64 0]) (results_row_two rfl _ _ (w.heap.size + 1) _ _ _ _ rfl (setRow_heap _ _ _ _ _ _ H1.out) Try.underlying26 rfl (by kernel_rfl) rfl rfl) rfl ⟨ret_three (by rw [HC.out]) (by rw [HC.out]) (by rw [HC.out]), below_setRow f3 (by omega) _⟩
end Go.Proofs.Ytmgfnejiienghaa
/- The walks over setup.Name and setup.Faults. -/
namespace Go.Proofs.Ytmgfnejiienghaa
open Go.RowKit
set_option linter.unusedVariables false
set_option maxRecDepth 100000

set_option maxHeartbeats 400000 in
theorem called_float (nm : ByteArray) (kat kto : Nat) (lo hi us : Nat) (w : World) : Calls Try.prog 152 #[.agg #[.string nm, .func (.func kat) #[] #[], .float .f64 lo, .float .f64 hi, .float .f64 us, .func (.func kto) #[] #[], .func (.func 109) #[] #[]]] w fun e w' => e = .returned (.string nm) ∧ Below w.heap.size w w' := by
  go_enter Try.func152, Try.ntmps152
  go_wp2
  go_ret
  exact ⟨rfl, (Below.refl _ _).alloc (Nat.le_refl _) _⟩
set_option maxHeartbeats 400000 in
theorem called_int (nm : ByteArray) (kat kto : Nat) (lo hi us : Int) (w : World) : Calls Try.prog 155 #[.agg #[.string nm, .func (.func kat) #[] #[], .int .i64 lo, .int .i64 hi, .int .i64 us, .func (.func kto) #[] #[], .func (.func 110) #[] #[]]] w fun e w' => e = .returned (.string nm) ∧ Below w.heap.size w w' := by
  go_enter Try.func155, Try.ntmps155
  go_wp2
  go_ret
  exact ⟨rfl, (Below.refl _ _).alloc (Nat.le_refl _) _⟩
theorem calledf1 (w : World) : Calls Try.prog 152 #[fa1] w fun e w' => e = .returned (.string ⟨#[115, 116, 101, 112]⟩) ∧ Below w.heap.size w w' := called_float _ _ _ _ _ _ w
theorem calledf2 (w : World) : Calls Try.prog 152 #[fa2] w fun e w' => e = .returned (.string ⟨#[119, 97, 116, 99, 104]⟩) ∧ Below w.heap.size w w' := called_float _ _ _ _ _ _ w
theorem calledf3 (w : World) : Calls Try.prog 152 #[fa3] w fun e w' => e = .returned (.string ⟨#[112, 97, 110, 105, 99]⟩) ∧ Below w.heap.size w w' := called_float _ _ _ _ _ _ w
theorem calledf4 (w : World) : Calls Try.prog 152 #[fa4] w fun e w' => e = .returned (.string ⟨#[109, 97, 120, 114, 97, 116, 101]⟩) ∧ Below w.heap.size w w' := called_float _ _ _ _ _ _ w
theorem calledf5 (w : World) : Calls Try.prog 152 #[fa5] w fun e w' => e = .returned (.string ⟨#[112, 104, 105]⟩) ∧ Below w.heap.size w w' := called_float _ _ _ _ _ _ w
theorem calledf6 (w : World) : Calls Try.prog 152 #[fa6] w fun e w' => e = .returned (.string ⟨#[109, 97, 120, 100, 105, 115, 116]⟩) ∧ Below w.heap.size w w' := called_float _ _ _ _ _ _ w
theorem calledf7 (w : World) : Calls Try.prog 152 #[fa7] w fun e w' => e = .returned (.string ⟨#[103, 97, 116, 101]⟩) ∧ Below w.heap.size w w' := called_float _ _ _ _ _ _ w
theorem calledf8 (w : World) : Calls Try.prog 155 #[fa8] w fun e w' => e = .returned (.string ⟨#[109, 105, 110, 112, 111, 108, 108]⟩) ∧ Below w.heap.size w w' := called_int _ _ _ _ _ _ w
theorem calledf9 (w : World) : Calls Try.prog 155 #[fa9] w fun e w' => e = .returned (.string ⟨#[109, 97, 120, 112, 111, 108, 108]⟩) ∧ Below w.heap.size w w' := called_int _ _ _ _ _ _ w
theorem calledf10 (w : World) : Calls Try.prog 155 #[fa10] w fun e w' => e = .returned (.string ⟨#[98, 117, 114, 115, 116]⟩) ∧ Below w.heap.size w w' := called_int _ _ _ _ _ _ w
theorem calledf11 (w : World) : Calls Try.prog 155 #[fa11] w fun e w' => e = .returned (.string ⟨#[109, 105, 110, 115, 97, 110, 101]⟩) ∧ Below w.heap.size w w' := called_int _ _ _ _ _ _ w
theorem calledf12 (w : World) : Calls Try.prog 155 #[fa12] w fun e w' => e = .returned (.string ⟨#[109, 105, 110, 108, 101, 102, 116]⟩) ∧ Below w.heap.size w w' := called_int _ _ _ _ _ _ w
/-- the name of a field -/
def sName (n : Int) : ByteArray :=
  if n < 1 then ⟨#[]⟩ else if 12 < n then ⟨#[]⟩ else
  if n = 1 then ⟨#[115, 116, 101, 112]⟩ else
  if n = 2 then ⟨#[119, 97, 116, 99, 104]⟩ else
  if n = 3 then ⟨#[112, 97, 110, 105, 99]⟩ else
  if n = 4 then ⟨#[109, 97, 120, 114, 97, 116, 101]⟩ else
  if n = 5 then ⟨#[112, 104, 105]⟩ else
  if n = 6 then ⟨#[109, 97, 120, 100, 105, 115, 116]⟩ else
  if n = 7 then ⟨#[103, 97, 116, 101]⟩ else
  if n = 8 then ⟨#[109, 105, 110, 112, 111, 108, 108]⟩ else
  if n = 9 then ⟨#[109, 97, 120, 112, 111, 108, 108]⟩ else
  if n = 10 then ⟨#[98, 117, 114, 115, 116]⟩ else
  if n = 11 then ⟨#[109, 105, 110, 115, 97, 110, 101]⟩ else
  if n = 12 then ⟨#[109, 105, 110, 108, 101, 102, 116]⟩ else
  ⟨#[]⟩
theorem ret_str {a b : ByteArray} (h : a = b) : Ending.returned (.string a) = .returned (.string b) := by rw [h]

set_option maxHeartbeats 4000000 in
theorem name_any (n : Int) (hn0 : -9223372036854775808 ≤ n) (hn1 : n ≤ 9223372036854775807) (w : World) : Calls Try.prog 20 #[.int .i64 n] w fun e w' => e = .returned (.string (sName n)) ∧ Below w.heap.size w w' := by
  by_cases h1 : n < 1
  · have HN : Hid (sName n = ⟨#[]⟩) := Lib.hid (by rw [sName, if_pos h1])
    go_enter Try.func20, Try.ntmps20
    go_wp2_with (with_reducible refine (fields_any _).mono ?_; rintro e w' ⟨rfl, rfl⟩)
    go_ret
    exact ⟨ret_str (by rw [HN.out]), (Below.refl _ _).alloc (Nat.le_refl _) _⟩
  by_cases h2 : 12 < n
  · have HN : Hid (sName n = ⟨#[]⟩) := Lib.hid (by rw [sName, if_neg h1, if_pos h2])
    go_enter Try.func20, Try.ntmps20
    go_wp2_with (with_reducible refine (fields_any _).mono ?_; rintro e w' ⟨rfl, rfl⟩)
    go_ret
    exact ⟨ret_str (by rw [HN.out]), (Below.refl _ _).alloc (Nat.le_refl _) _⟩
  by_cases e0 : n = 1
  · subst e0
    have c2 := fun w : World => cell_of_heap (w := w.alloc (.cells fvs 92)) (o := 0) (v := .iface 146 fa1) (heap_alloc_new w _) rfl
    have hm := m_called1
    go_enter Try.func20, Try.ntmps20
    go_wp2_with (first | (with_reducible refine (fields_any _).mono ?_; rintro e w' ⟨rfl, rfl⟩) | (with_reducible refine (calledf1 _).mono ?_; rintro e w' ⟨rfl, hb⟩))
    go_ret
    exact ⟨ret_str rfl, ((Below.refl _ _).alloc (Nat.le_refl _) _).trans (hb.mono (by simp))⟩
  by_cases e1 : n = 2
  · subst e1
    have c2 := fun w : World => cell_of_heap (w := w.alloc (.cells fvs 92)) (o := 1) (v := .iface 146 fa2) (heap_alloc_new w _) rfl
    have hm := m_called2
    go_enter Try.func20, Try.ntmps20
    go_wp2_with (first | (with_reducible refine (fields_any _).mono ?_; rintro e w' ⟨rfl, rfl⟩) | (with_reducible refine (calledf2 _).mono ?_; rintro e w' ⟨rfl, hb⟩))
    go_ret
    exact ⟨ret_str rfl, ((Below.refl _ _).alloc (Nat.le_refl _) _).trans (hb.mono (by simp))⟩
  by_cases e2 : n = 3
  · subst e2
    have c2 := fun w : World => cell_of_heap (w := w.alloc (.cells fvs 92)) (o := 2) (v := .iface 146 fa3) (heap_alloc_new w _) rfl
    have hm := m_called3
    go_enter Try.func20, Try.ntmps20
    go_wp2_with (first | (with_reducible refine (fields_any _).mono ?_; rintro e w' ⟨rfl, rfl⟩) | (with_reducible refine (calledf3 _).mono ?_; rintro e w' ⟨rfl, hb⟩))
    go_ret
    exact ⟨ret_str rfl, ((Below.refl _ _).alloc (Nat.le_refl _) _).trans (hb.mono (by simp))⟩
  by_cases e3 : n = 4
  · subst e3
    have c2 := fun w : World => cell_of_heap (w := w.alloc (.cells fvs 92)) (o := 3) (v := .iface 146 fa4) (heap_alloc_new w _) rfl
    have hm := m_called4
    go_enter Try.func20, Try.ntmps20
    go_wp2_with (first | (with_reducible refine (fields_any _).mono ?_; rintro e w' ⟨rfl, rfl⟩) | (with_reducible refine (calledf4 _).mono ?_; rintro e w' ⟨rfl, hb⟩))
    go_ret
    exact ⟨ret_str rfl, ((Below.refl _ _).alloc (Nat.le_refl _) _).trans (hb.mono (by simp))⟩
  by_cases e4 : n = 5
  · subst e4
    have c2 := fun w : World => cell_of_heap (w := w.alloc (.cells fvs 92)) (o := 4) (v := .iface 146 fa5) (heap_alloc_new w _) rfl
    have hm := m_called5
    go_enter Try.func20, Try.ntmps20
    go_wp2_with (first | (with_reducible refine (fields_any _).mono ?_; rintro e w' ⟨rfl, rfl⟩) | (with_reducible refine (calledf5 _).mono ?_; rintro e w' ⟨rfl, hb⟩))
    go_ret
    exact ⟨ret_str rfl, ((Below.refl _ _).alloc (Nat.le_refl _) _).trans (hb.mono (by simp))⟩
  by_cases e5 : n = 6
  · subst e5
    have c2 := fun w : World => cell_of_heap (w := w.alloc (.cells fvs 92)) (o := 5) (v := .iface 146 fa6) (heap_alloc_new w _) rfl
    have hm := m_called6
    go_enter Try.func20, Try.ntmps20
    go_wp2_with (first | (with_reducible refine (fields_any _).mono ?_; rintro e w' ⟨rfl, rfl⟩) | (with_reducible refine (calledf6 _).mono ?_; rintro e w' ⟨rfl, hb⟩))
    go_ret
    exact ⟨ret_str rfl, ((Below.refl _ _).alloc (Nat.le_refl _) _).trans (hb.mono (by simp))⟩
  by_cases e6 : n = 7
  · subst e6
    have c2 := fun w : World => cell_of_heap (w := w.alloc (.cells fvs 92)) (o := 6) (v := .iface 146 fa7) (heap_alloc_new w _) rfl
    have hm := m_called7
    go_enter Try.func20, Try.ntmps20
    go_wp2_with (first | (with_reducible refine (fields_any _).mono ?_; rintro e w' ⟨rfl, rfl⟩) | (with_reducible refine (calledf7 _).mono ?_; rintro e w' ⟨rfl, hb⟩))
    go_ret
    exact ⟨ret_str rfl, ((Below.refl _ _).alloc (Nat.le_refl _) _).trans (hb.mono (by simp))⟩
  by_cases e7 : n = 8
  · subst e7
    have c2 := fun w : World => cell_of_heap (w := w.alloc (.cells fvs 92)) (o := 7) (v := .iface 149 fa8) (heap_alloc_new w _) rfl
    have hm := m_called8
    go_enter Try.func20, Try.ntmps20
    go_wp2_with (first | (with_reducible refine (fields_any _).mono ?_; rintro e w' ⟨rfl, rfl⟩) | (with_reducible refine (calledf8 _).mono ?_; rintro e w' ⟨rfl, hb⟩))
    go_ret
    exact ⟨ret_str rfl, ((Below.refl _ _).alloc (Nat.le_refl _) _).trans (hb.mono (by simp))⟩
  by_cases e8 : n = 9
  · subst e8
    have c2 := fun w : World => cell_of_heap (w := w.alloc (.cells fvs 92)) (o := 8) (v := .iface 149 fa9) (heap_alloc_new w _) rfl
    have hm := m_called9
    go_enter Try.func20, Try.ntmps20
    go_wp2_with (first | (with_reducible refine (fields_any _).mono ?_; rintro e w' ⟨rfl, rfl⟩) | (with_reducible refine (calledf9 _).mono ?_; rintro e w' ⟨rfl, hb⟩))
    go_ret
    exact ⟨ret_str rfl, ((Below.refl _ _).alloc (Nat.le_refl _) _).trans (hb.mono (by simp))⟩
  by_cases e9 : n = 10
  · subst e9
    have c2 := fun w : World => cell_of_heap (w := w.alloc (.cells fvs 92)) (o := 9) (v := .iface 149 fa10) (heap_alloc_new w _) rfl
    have hm := m_called10
    go_enter Try.func20, Try.ntmps20
    go_wp2_with (first | (with_reducible refine (fields_any _).mono ?_; rintro e w' ⟨rfl, rfl⟩) | (with_reducible refine (calledf10 _).mono ?_; rintro e w' ⟨rfl, hb⟩))
    go_ret
    exact ⟨ret_str rfl, ((Below.refl _ _).alloc (Nat.le_refl _) _).trans (hb.mono (by simp))⟩
  by_cases e10 : n = 11
  · subst e10
    have c2 := fun w : World => cell_of_heap (w := w.alloc (.cells fvs 92)) (o := 10) (v := .iface 149 fa11) (heap_alloc_new w _) rfl
    have hm := m_called11
    go_enter Try.func20, Try.ntmps20
    go_wp2_with (first | (with_reducible refine (fields_any _).mono ?_; rintro e w' ⟨rfl, rfl⟩) | (with_reducible refine (calledf11 _).mono ?_; rintro e w' ⟨rfl, hb⟩))
    go_ret
    exact ⟨ret_str rfl, ((Below.refl _ _).alloc (Nat.le_refl _) _).trans (hb.mono (by simp))⟩
  by_cases e11 : n = 12
  · subst e11
    have c2 := fun w : World => cell_of_heap (w := w.alloc (.cells fvs 92)) (o := 11) (v := .iface 149 fa12) (heap_alloc_new w _) rfl
    have hm := m_called12
    go_enter Try.func20, Try.ntmps20
    go_wp2_with (first | (with_reducible refine (fields_any _).mono ?_; rintro e w' ⟨rfl, rfl⟩) | (with_reducible refine (calledf12 _).mono ?_; rintro e w' ⟨rfl, hb⟩))
    go_ret
    exact ⟨ret_str rfl, ((Below.refl _ _).alloc (Nat.le_refl _) _).trans (hb.mono (by simp))⟩
  omega
end Go.Proofs.Ytmgfnejiienghaa
/- What is standard: the configuration, and what is set by it. -/
namespace Go.Proofs.Ytmgfnejiienghaa
open Go.RowKit
set_option linter.unusedVariables false
set_option maxRecDepth 100000

theorem bnext {w w1 w2 : World} (h : Below w.heap.size w w1) (h2 : Below w1.heap.size w1 w2) : Below w.heap.size w w2 := h.trans (h2.mono h.size)
theorem balloc {w w1 : World} (h : Below w.heap.size w w1) (o : Obj) : Below w.heap.size w (w1.alloc o) := h.alloc h.size o
theorem bcell {W w1 : World} (hb : Below W.heap.size W w1) : (∀ b o, b < W.heap.size → w1.cell? ⟨b, o, none⟩ = W.cell? ⟨b, o, none⟩) ∧ (∀ b o, b < W.heap.size → w1.frozen? ⟨b, o, none⟩ = W.frozen? ⟨b, o, none⟩) :=
  ⟨fun b o h => hb.cell (p := ⟨b, o, none⟩) h, fun b o h => hb.frozen (p := ⟨b, o, none⟩) h⟩
theorem bset {w w1 : World} (h : Below w.heap.size w w1) {a : Addr} (ha : w.heap.size ≤ a.block) (v : Value) : Below w.heap.size w (w1.setCell a v) := h.setCell ha v

def stdCfg : Cfg := ⟨4593671619917905920, 4643985272004935680, 4652007308841189376, 4557750909289998844, 4534972062662729065, 4609434218613702656, 4616189618054758400, 6, 10, 0, 1, 3⟩
theorem std_ok : stdCfg.ok := ⟨by decide, by decide, by decide, by decide, by decide, by decide, by decide⟩
theorem std_cells : stc12 = stdCfg.cells := rfl
theorem std_fld0 : stdCfg.fld 0 = (536870912, 0) := by decide +kernel
theorem std_fld1 : stdCfg.fld 1 = (1288490188800, 0) := by decide +kernel
theorem std_fld2 : stdCfg.fld 2 = (4294967296000, 0) := by decide +kernel
theorem std_fld3 : stdCfg.fld 3 = (2147483, 0) := by decide +kernel
theorem std_fld4 : stdCfg.fld 4 = (64424, 0) := by decide +kernel
theorem std_fld5 : stdCfg.fld 5 = (6442450944, 0) := by decide +kernel
theorem std_fld6 : stdCfg.fld 6 = (17179869184, 0) := by decide +kernel
theorem std_fld7 : stdCfg.fld 7 = (6, 0) := by decide +kernel
theorem std_fld8 : stdCfg.fld 8 = (10, 0) := by decide +kernel
theorem std_fld9 : stdCfg.fld 9 = (0, 0) := by decide +kernel
theorem std_fld10 : stdCfg.fld 10 = (1, 0) := by decide +kernel
theorem std_fld11 : stdCfg.fld 11 = (3, 0) := by decide +kernel
theorem std_e3 : stdCfg.e3 = 0 := by decide +kernel
theorem std_e9 : stdCfg.e9 = 0 := by decide +kernel
theorem std_err : ∀ j, j < 13 → stdCfg.err j = 0 := by
  intro j hj
  by_cases c0 : j = 0
  · subst c0; rfl
  by_cases c1 : j = 1
  · subst c1; show (stdCfg.fld 0).2 = 0; rw [std_fld0]
  by_cases c2 : j = 2
  · subst c2; show (stdCfg.fld 1).2 = 0; rw [std_fld1]
  by_cases c3 : j = 3
  · subst c3; exact std_e3
  by_cases c4 : j = 4
  · subst c4; show (stdCfg.fld 3).2 = 0; rw [std_fld3]
  by_cases c5 : j = 5
  · subst c5; show (stdCfg.fld 4).2 = 0; rw [std_fld4]
  by_cases c6 : j = 6
  · subst c6; show (stdCfg.fld 5).2 = 0; rw [std_fld5]
  by_cases c7 : j = 7
  · subst c7; show (stdCfg.fld 6).2 = 0; rw [std_fld6]
  by_cases c8 : j = 8
  · subst c8; show (stdCfg.fld 7).2 = 0; rw [std_fld7]
  by_cases c9 : j = 9
  · subst c9; exact std_e9
  by_cases c10 : j = 10
  · subst c10; show (stdCfg.fld 9).2 = 0; rw [std_fld9]
  by_cases c11 : j = 11
  · subst c11; show (stdCfg.fld 10).2 = 0; rw [std_fld10]
  by_cases c12 : j = 12
  · subst c12; show (stdCfg.fld 11).2 = 0; rw [std_fld11]
  omega
/-- what is set as a rule -/
theorem std_set : stdCfg.set = #[.int .i64 536870912, .int .i64 1288490188800, .int .i64 4294967296000, .int .i64 2147483, .int .i64 64424, .int .i64 6442450944, .int .i64 17179869184, .int .i64 6, .int .i64 10, .int .i64 0, .int .i64 1, .int .i64 3] := by
  simp only [Cfg.set, std_fld0, std_fld1, std_fld2, std_fld3, std_fld4, std_fld5, std_fld6, std_fld7, std_fld8, std_fld9, std_fld10, std_fld11]
theorem std_check : stdCfg.check = (#[.int .i64 536870912, .int .i64 1288490188800, .int .i64 4294967296000, .int .i64 2147483, .int .i64 64424, .int .i64 6442450944, .int .i64 17179869184, .int .i64 6, .int .i64 10, .int .i64 0, .int .i64 1, .int .i64 3], 0, 0) := by rw [Cfg.check_good std_err, std_set]

set_option maxHeartbeats 1000000 in
theorem shown10 (w : World) : Calls Try.prog 19 #[] w fun e w' => e = .returned (.bool true) ∧ Below w.heap.size w w' := by
  have n1 : sName 1 = ⟨#[115, 116, 101, 112]⟩ := rfl
  go_enter Try.func19, Try.ntmps19
  go_wp2_with (first | (with_reducible refine (standard_any _).mono ?_; rintro e w1 ⟨rfl, hb1⟩; rw [std_cells]) | (with_reducible refine (check_any stdCfg std_ok _).mono ?_; rintro e w2 ⟨rfl, hb2⟩; rw [std_check]) | (with_reducible refine (name_any _ (by decide) (by decide) _).mono ?_; rintro e w3 ⟨rfl, hb3⟩))
  go_ret
  exact ⟨ret_bool (by simp), bnext (balloc (bnext hb1 hb2) _) hb3⟩
end Go.Proofs.Ytmgfnejiienghaa
