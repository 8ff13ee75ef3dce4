/- The walks over setup.Name and setup.Faults. -/
import Derived.Test.YtmgfnejiienghaaSc
namespace Go.Proofs.Ytmgfnejiienghaa
open Go.RowKit
set_option linter.unusedVariables false
set_option maxRecDepth 100000

set_option maxHeartbeats 400000 in
theorem called_float (nm : ByteArray) (kat kto : Nat) (lo hi us : Nat) (w : World) : Calls Try.prog 152 #[.agg #[.string nm, .func (.func kat) #[] #[], .float .f64 lo, .float .f64 hi, .float .f64 us, .func (.func kto) #[] #[], .func (.func 109) #[] #[]]] w fun e w' => e = .returned (.string nm) ∧ Below w.heap.size w w' := by
  go_enter Try.func152, Try.ntmps152
  go_wp2
  go_ret
  exact ⟨rfl, (Below.refl _ _).alloc (Nat.le_refl _) _⟩
set_option maxHeartbeats 400000 in
theorem called_int (nm : ByteArray) (kat kto : Nat) (lo hi us : Int) (w : World) : Calls Try.prog 155 #[.agg #[.string nm, .func (.func kat) #[] #[], .int .i64 lo, .int .i64 hi, .int .i64 us, .func (.func kto) #[] #[], .func (.func 110) #[] #[]]] w fun e w' => e = .returned (.string nm) ∧ Below w.heap.size w w' := by
  go_enter Try.func155, Try.ntmps155
  go_wp2
  go_ret
  exact ⟨rfl, (Below.refl _ _).alloc (Nat.le_refl _) _⟩
theorem calledf1 (w : World) : Calls Try.prog 152 #[fa1] w fun e w' => e = .returned (.string ⟨#[115, 116, 101, 112]⟩) ∧ Below w.heap.size w w' := called_float _ _ _ _ _ _ w
theorem calledf2 (w : World) : Calls Try.prog 152 #[fa2] w fun e w' => e = .returned (.string ⟨#[119, 97, 116, 99, 104]⟩) ∧ Below w.heap.size w w' := called_float _ _ _ _ _ _ w
theorem calledf3 (w : World) : Calls Try.prog 152 #[fa3] w fun e w' => e = .returned (.string ⟨#[112, 97, 110, 105, 99]⟩) ∧ Below w.heap.size w w' := called_float _ _ _ _ _ _ w
theorem calledf4 (w : World) : Calls Try.prog 152 #[fa4] w fun e w' => e = .returned (.string ⟨#[109, 97, 120, 114, 97, 116, 101]⟩) ∧ Below w.heap.size w w' := called_float _ _ _ _ _ _ w
theorem calledf5 (w : World) : Calls Try.prog 152 #[fa5] w fun e w' => e = .returned (.string ⟨#[112, 104, 105]⟩) ∧ Below w.heap.size w w' := called_float _ _ _ _ _ _ w
theorem calledf6 (w : World) : Calls Try.prog 152 #[fa6] w fun e w' => e = .returned (.string ⟨#[109, 97, 120, 100, 105, 115, 116]⟩) ∧ Below w.heap.size w w' := called_float _ _ _ _ _ _ w
theorem calledf7 (w : World) : Calls Try.prog 152 #[fa7] w fun e w' => e = .returned (.string ⟨#[103, 97, 116, 101]⟩) ∧ Below w.heap.size w w' := called_float _ _ _ _ _ _ w
theorem calledf8 (w : World) : Calls Try.prog 155 #[fa8] w fun e w' => e = .returned (.string ⟨#[109, 105, 110, 112, 111, 108, 108]⟩) ∧ Below w.heap.size w w' := called_int _ _ _ _ _ _ w
theorem calledf9 (w : World) : Calls Try.prog 155 #[fa9] w fun e w' => e = .returned (.string ⟨#[109, 97, 120, 112, 111, 108, 108]⟩) ∧ Below w.heap.size w w' := called_int _ _ _ _ _ _ w
theorem calledf10 (w : World) : Calls Try.prog 155 #[fa10] w fun e w' => e = .returned (.string ⟨#[98, 117, 114, 115, 116]⟩) ∧ Below w.heap.size w w' := called_int _ _ _ _ _ _ w
theorem calledf11 (w : World) : Calls Try.prog 155 #[fa11] w fun e w' => e = .returned (.string ⟨#[109, 105, 110, 115, 97, 110, 101]⟩) ∧ Below w.heap.size w w' := called_int _ _ _ _ _ _ w
theorem calledf12 (w : World) : Calls Try.prog 155 #[fa12] w fun e w' => e = .returned (.string ⟨#[109, 105, 110, 108, 101, 102, 116]⟩) ∧ Below w.heap.size w w' := called_int _ _ _ _ _ _ w
/-- the name of a field -/
def sName (n : Int) : ByteArray :=
  if n < 1 then ⟨#[]⟩ else if 12 < n then ⟨#[]⟩ else
  if n = 1 then ⟨#[115, 116, 101, 112]⟩ else
  if n = 2 then ⟨#[119, 97, 116, 99, 104]⟩ else
  if n = 3 then ⟨#[112, 97, 110, 105, 99]⟩ else
  if n = 4 then ⟨#[109, 97, 120, 114, 97, 116, 101]⟩ else
  if n = 5 then ⟨#[112, 104, 105]⟩ else
  if n = 6 then ⟨#[109, 97, 120, 100, 105, 115, 116]⟩ else
  if n = 7 then ⟨#[103, 97, 116, 101]⟩ else
  if n = 8 then ⟨#[109, 105, 110, 112, 111, 108, 108]⟩ else
  if n = 9 then ⟨#[109, 97, 120, 112, 111, 108, 108]⟩ else
  if n = 10 then ⟨#[98, 117, 114, 115, 116]⟩ else
  if n = 11 then ⟨#[109, 105, 110, 115, 97, 110, 101]⟩ else
  if n = 12 then ⟨#[109, 105, 110, 108, 101, 102, 116]⟩ else
  ⟨#[]⟩
theorem ret_str {a b : ByteArray} (h : a = b) : Ending.returned (.string a) = .returned (.string b) := by rw [h]

set_option maxHeartbeats 4000000 in
theorem name_any (n : Int) (hn0 : -9223372036854775808 ≤ n) (hn1 : n ≤ 9223372036854775807) (w : World) : Calls Try.prog 20 #[.int .i64 n] w fun e w' => e = .returned (.string (sName n)) ∧ Below w.heap.size w w' := by
  by_cases h1 : n < 1
  · have HN : Hid (sName n = ⟨#[]⟩) := Lib.hid (by rw [sName, if_pos h1])
    go_enter Try.func20, Try.ntmps20
    go_wp2_with (with_reducible refine (fields_any _).mono ?_; rintro e w' ⟨rfl, rfl⟩)
    go_ret
    exact ⟨ret_str (by rw [HN.out]), (Below.refl _ _).alloc (Nat.le_refl _) _⟩
  by_cases h2 : 12 < n
  · have HN : Hid (sName n = ⟨#[]⟩) := Lib.hid (by rw [sName, if_neg h1, if_pos h2])
    go_enter Try.func20, Try.ntmps20
    go_wp2_with (with_reducible refine (fields_any _).mono ?_; rintro e w' ⟨rfl, rfl⟩)
    go_ret
    exact ⟨ret_str (by rw [HN.out]), (Below.refl _ _).alloc (Nat.le_refl _) _⟩
  by_cases e0 : n = 1
  · subst e0
    have c2 := fun w : World => cell_of_heap (w := w.alloc (.cells fvs 92)) (o := 0) (v := .iface 146 fa1) (heap_alloc_new w _) rfl
    have hm := m_called1
    go_enter Try.func20, Try.ntmps20
    go_wp2_with (first | (with_reducible refine (fields_any _).mono ?_; rintro e w' ⟨rfl, rfl⟩) | (with_reducible refine (calledf1 _).mono ?_; rintro e w' ⟨rfl, hb⟩))
    go_ret
    exact ⟨ret_str rfl, ((Below.refl _ _).alloc (Nat.le_refl _) _).trans (hb.mono (by simp))⟩
  by_cases e1 : n = 2
  · subst e1
    have c2 := fun w : World => cell_of_heap (w := w.alloc (.cells fvs 92)) (o := 1) (v := .iface 146 fa2) (heap_alloc_new w _) rfl
    have hm := m_called2
    go_enter Try.func20, Try.ntmps20
    go_wp2_with (first | (with_reducible refine (fields_any _).mono ?_; rintro e w' ⟨rfl, rfl⟩) | (with_reducible refine (calledf2 _).mono ?_; rintro e w' ⟨rfl, hb⟩))
    go_ret
    exact ⟨ret_str rfl, ((Below.refl _ _).alloc (Nat.le_refl _) _).trans (hb.mono (by simp))⟩
  by_cases e2 : n = 3
  · subst e2
    have c2 := fun w : World => cell_of_heap (w := w.alloc (.cells fvs 92)) (o := 2) (v := .iface 146 fa3) (heap_alloc_new w _) rfl
    have hm := m_called3
    go_enter Try.func20, Try.ntmps20
    go_wp2_with (first | (with_reducible refine (fields_any _).mono ?_; rintro e w' ⟨rfl, rfl⟩) | (with_reducible refine (calledf3 _).mono ?_; rintro e w' ⟨rfl, hb⟩))
    go_ret
    exact ⟨ret_str rfl, ((Below.refl _ _).alloc (Nat.le_refl _) _).trans (hb.mono (by simp))⟩
  by_cases e3 : n = 4
  · subst e3
    have c2 := fun w : World => cell_of_heap (w := w.alloc (.cells fvs 92)) (o := 3) (v := .iface 146 fa4) (heap_alloc_new w _) rfl
    have hm := m_called4
    go_enter Try.func20, Try.ntmps20
    go_wp2_with (first | (with_reducible refine (fields_any _).mono ?_; rintro e w' ⟨rfl, rfl⟩) | (with_reducible refine (calledf4 _).mono ?_; rintro e w' ⟨rfl, hb⟩))
    go_ret
    exact ⟨ret_str rfl, ((Below.refl _ _).alloc (Nat.le_refl _) _).trans (hb.mono (by simp))⟩
  by_cases e4 : n = 5
  · subst e4
    have c2 := fun w : World => cell_of_heap (w := w.alloc (.cells fvs 92)) (o := 4) (v := .iface 146 fa5) (heap_alloc_new w _) rfl
    have hm := m_called5
    go_enter Try.func20, Try.ntmps20
    go_wp2_with (first | (with_reducible refine (fields_any _).mono ?_; rintro e w' ⟨rfl, rfl⟩) | (with_reducible refine (calledf5 _).mono ?_; rintro e w' ⟨rfl, hb⟩))
    go_ret
    exact ⟨ret_str rfl, ((Below.refl _ _).alloc (Nat.le_refl _) _).trans (hb.mono (by simp))⟩
  by_cases e5 : n = 6
  · subst e5
    have c2 := fun w : World => cell_of_heap (w := w.alloc (.cells fvs 92)) (o := 5) (v := .iface 146 fa6) (heap_alloc_new w _) rfl
    have hm := m_called6
    go_enter Try.func20, Try.ntmps20
    go_wp2_with (first | (with_reducible refine (fields_any _).mono ?_; rintro e w' ⟨rfl, rfl⟩) | (with_reducible refine (calledf6 _).mono ?_; rintro e w' ⟨rfl, hb⟩))
    go_ret
    exact ⟨ret_str rfl, ((Below.refl _ _).alloc (Nat.le_refl _) _).trans (hb.mono (by simp))⟩
  by_cases e6 : n = 7
  · subst e6
    have c2 := fun w : World => cell_of_heap (w := w.alloc (.cells fvs 92)) (o := 6) (v := .iface 146 fa7) (heap_alloc_new w _) rfl
    have hm := m_called7
    go_enter Try.func20, Try.ntmps20
    go_wp2_with (first | (with_reducible refine (fields_any _).mono ?_; rintro e w' ⟨rfl, rfl⟩) | (with_reducible refine (calledf7 _).mono ?_; rintro e w' ⟨rfl, hb⟩))
    go_ret
    exact ⟨ret_str rfl, ((Below.refl _ _).alloc (Nat.le_refl _) _).trans (hb.mono (by simp))⟩
  by_cases e7 : n = 8
  · subst e7
    have c2 := fun w : World => cell_of_heap (w := w.alloc (.cells fvs 92)) (o := 7) (v := .iface 149 fa8) (heap_alloc_new w _) rfl
    have hm := m_called8
    go_enter Try.func20, Try.ntmps20
    go_wp2_with (first | (with_reducible refine (fields_any _).mono ?_; rintro e w' ⟨rfl, rfl⟩) | (with_reducible refine (calledf8 _).mono ?_; rintro e w' ⟨rfl, hb⟩))
    go_ret
    exact ⟨ret_str rfl, ((Below.refl _ _).alloc (Nat.le_refl _) _).trans (hb.mono (by simp))⟩
  by_cases e8 : n = 9
  · subst e8
    have c2 := fun w : World => cell_of_heap (w := w.alloc (.cells fvs 92)) (o := 8) (v := .iface 149 fa9) (heap_alloc_new w _) rfl
    have hm := m_called9
    go_enter Try.func20, Try.ntmps20
    go_wp2_with (first | (with_reducible refine (fields_any _).mono ?_; rintro e w' ⟨rfl, rfl⟩) | (with_reducible refine (calledf9 _).mono ?_; rintro e w' ⟨rfl, hb⟩))
    go_ret
    exact ⟨ret_str rfl, ((Below.refl _ _).alloc (Nat.le_refl _) _).trans (hb.mono (by simp))⟩
  by_cases e9 : n = 10
  · subst e9
    have c2 := fun w : World => cell_of_heap (w := w.alloc (.cells fvs 92)) (o := 9) (v := .iface 149 fa10) (heap_alloc_new w _) rfl
    have hm := m_called10
    go_enter Try.func20, Try.ntmps20
    go_wp2_with (first | (with_reducible refine (fields_any _).mono ?_; rintro e w' ⟨rfl, rfl⟩) | (with_reducible refine (calledf10 _).mono ?_; rintro e w' ⟨rfl, hb⟩))
    go_ret
    exact ⟨ret_str rfl, ((Below.refl _ _).alloc (Nat.le_refl _) _).trans (hb.mono (by simp))⟩
  by_cases e10 : n = 11
  · subst e10
    have c2 := fun w : World => cell_of_heap (w := w.alloc (.cells fvs 92)) (o := 10) (v := .iface 149 fa11) (heap_alloc_new w _) rfl
    have hm := m_called11
    go_enter Try.func20, Try.ntmps20
    go_wp2_with (first | (with_reducible refine (fields_any _).mono ?_; rintro e w' ⟨rfl, rfl⟩) | (with_reducible refine (calledf11 _).mono ?_; rintro e w' ⟨rfl, hb⟩))
    go_ret
    exact ⟨ret_str rfl, ((Below.refl _ _).alloc (Nat.le_refl _) _).trans (hb.mono (by simp))⟩
  by_cases e11 : n = 12
  · subst e11
    have c2 := fun w : World => cell_of_heap (w := w.alloc (.cells fvs 92)) (o := 11) (v := .iface 149 fa12) (heap_alloc_new w _) rfl
    have hm := m_called12
    go_enter Try.func20, Try.ntmps20
    go_wp2_with (first | (with_reducible refine (fields_any _).mono ?_; rintro e w' ⟨rfl, rfl⟩) | (with_reducible refine (calledf12 _).mono ?_; rintro e w' ⟨rfl, hb⟩))
    go_ret
    exact ⟨ret_str rfl, ((Below.refl _ _).alloc (Nat.le_refl _) _).trans (hb.mono (by simp))⟩
  omega
end Go.Proofs.Ytmgfnejiienghaa
