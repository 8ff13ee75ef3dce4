/- The walk over setup.Standard. -/
import Derived.Test.YthhipnhnpjhaaaaSe
namespace Go.Proofs.Ythhipnhnpjhaaaa
open Go.RowKit
set_option linter.unusedVariables false
set_option maxRecDepth 100000

def stc0 : Array Value := #[.float .f64 0, .float .f64 0, .float .f64 0, .float .f64 0, .float .f64 0, .float .f64 0, .float .f64 0, .int .i64 0, .int .i64 0, .int .i64 0, .int .i64 0, .int .i64 0]
def stc1 : Array Value := #[.float .f64 4593671619917905920, .float .f64 0, .float .f64 0, .float .f64 0, .float .f64 0, .float .f64 0, .float .f64 0, .int .i64 0, .int .i64 0, .int .i64 0, .int .i64 0, .int .i64 0]
def stc2 : Array Value := #[.float .f64 4593671619917905920, .float .f64 4643985272004935680, .float .f64 0, .float .f64 0, .float .f64 0, .float .f64 0, .float .f64 0, .int .i64 0, .int .i64 0, .int .i64 0, .int .i64 0, .int .i64 0]
def stc3 : Array Value := #[.float .f64 4593671619917905920, .float .f64 4643985272004935680, .float .f64 4652007308841189376, .float .f64 0, .float .f64 0, .float .f64 0, .float .f64 0, .int .i64 0, .int .i64 0, .int .i64 0, .int .i64 0, .int .i64 0]
def stc4 : Array Value := #[.float .f64 4593671619917905920, .float .f64 4643985272004935680, .float .f64 4652007308841189376, .float .f64 4557750909289998844, .float .f64 0, .float .f64 0, .float .f64 0, .int .i64 0, .int .i64 0, .int .i64 0, .int .i64 0, .int .i64 0]
def stc5 : Array Value := #[.float .f64 4593671619917905920, .float .f64 4643985272004935680, .float .f64 4652007308841189376, .float .f64 4557750909289998844, .float .f64 4534972062662729065, .float .f64 0, .float .f64 0, .int .i64 0, .int .i64 0, .int .i64 0, .int .i64 0, .int .i64 0]
def stc6 : Array Value := #[.float .f64 4593671619917905920, .float .f64 4643985272004935680, .float .f64 4652007308841189376, .float .f64 4557750909289998844, .float .f64 4534972062662729065, .float .f64 4609434218613702656, .float .f64 0, .int .i64 0, .int .i64 0, .int .i64 0, .int .i64 0, .int .i64 0]
def stc7 : Array Value := #[.float .f64 4593671619917905920, .float .f64 4643985272004935680, .float .f64 4652007308841189376, .float .f64 4557750909289998844, .float .f64 4534972062662729065, .float .f64 4609434218613702656, .float .f64 4616189618054758400, .int .i64 0, .int .i64 0, .int .i64 0, .int .i64 0, .int .i64 0]
def stc8 : Array Value := #[.float .f64 4593671619917905920, .float .f64 4643985272004935680, .float .f64 4652007308841189376, .float .f64 4557750909289998844, .float .f64 4534972062662729065, .float .f64 4609434218613702656, .float .f64 4616189618054758400, .int .i64 6, .int .i64 0, .int .i64 0, .int .i64 0, .int .i64 0]
def stc9 : Array Value := #[.float .f64 4593671619917905920, .float .f64 4643985272004935680, .float .f64 4652007308841189376, .float .f64 4557750909289998844, .float .f64 4534972062662729065, .float .f64 4609434218613702656, .float .f64 4616189618054758400, .int .i64 6, .int .i64 10, .int .i64 0, .int .i64 0, .int .i64 0]
def stc10 : Array Value := #[.float .f64 4593671619917905920, .float .f64 4643985272004935680, .float .f64 4652007308841189376, .float .f64 4557750909289998844, .float .f64 4534972062662729065, .float .f64 4609434218613702656, .float .f64 4616189618054758400, .int .i64 6, .int .i64 10, .int .i64 0, .int .i64 0, .int .i64 0]
def stc11 : Array Value := #[.float .f64 4593671619917905920, .float .f64 4643985272004935680, .float .f64 4652007308841189376, .float .f64 4557750909289998844, .float .f64 4534972062662729065, .float .f64 4609434218613702656, .float .f64 4616189618054758400, .int .i64 6, .int .i64 10, .int .i64 0, .int .i64 1, .int .i64 0]
def stc12 : Array Value := #[.float .f64 4593671619917905920, .float .f64 4643985272004935680, .float .f64 4652007308841189376, .float .f64 4557750909289998844, .float .f64 4534972062662729065, .float .f64 4609434218613702656, .float .f64 4616189618054758400, .int .i64 6, .int .i64 10, .int .i64 0, .int .i64 1, .int .i64 3]
def stc : Nat → Array Value
  | 0 => stc0
  | 1 => stc1
  | 2 => stc2
  | 3 => stc3
  | 4 => stc4
  | 5 => stc5
  | 6 => stc6
  | 7 => stc7
  | 8 => stc8
  | 9 => stc9
  | 10 => stc10
  | 11 => stc11
  | _ => stc12
/-- what the cells of a block tell -/
theorem cell_of_heap {w : World} {b o : Nat} {c : Array Value} {t : TypeId} {f : Nat × Nat} {v : Value} (h : w.heap[b]? = some (.cells c t f)) (hv : c[o]? = some v) : w.cell? ⟨b, o, none⟩ = some v := by simp [World.cell?, h, hv]
theorem free_of_heap {w : World} {b o : Nat} {c : Array Value} {t : TypeId} (h : w.heap[b]? = some (.cells c t (0, 0))) : w.frozen? ⟨b, o, none⟩ = false := by simp [World.frozen?, h]
theorem heap_setCell {w : World} {b o : Nat} {c : Array Value} {t : TypeId} {f : Nat × Nat} (h : w.heap[b]? = some (.cells c t f)) (v : Value) : (w.setCell ⟨b, o, none⟩ v).heap[b]? = some (.cells (c.setIfInBounds o v) t f) := by
  have hlt : b < w.heap.size := lt_of_block h
  have h' : w.heap[b] = .cells c t f := by simpa [Array.getElem?_eq_getElem hlt] using h
  show (w.heap.modify b _)[b]? = _
  rw [Array.getElem?_eq_getElem (by simpa using hlt), Array.getElem_modify_self, h']
  rfl
theorem heap_setCell_ne {w : World} {b b' o : Nat} {x : Option Obj} (h : w.heap[b]? = x) (hb : b ≠ b') (v : Value) : (w.setCell ⟨b', o, none⟩ v).heap[b]? = x := by
  rw [Below.heap_setCell _ _ _ _ hb]; exact h

set_option maxHeartbeats 400000 in
theorem at1_any (b : Nat) (w : World) : Calls Try.prog 67 #[.pointer (some ⟨b, 0, none⟩)] w fun e w' => e = .returned (.pointer (some ⟨b, 0, none⟩)) ∧ w' = w := by
  go_enter Try.func67, Try.ntmps67
  go_wp2
  go_ret
  exact ⟨rfl, rfl⟩
theorem at1_call (b : Nat) (w : World) : (callFunc 67 #[.pointer (some ⟨b, 0, none⟩)]).run Try.prog w = .ok (.enter 67 #[.pointer (some ⟨b, 0, none⟩)]) w := by kernel_rfl
set_option maxHeartbeats 400000 in
theorem to1_any (b : Nat) (w : World) : Calls Try.prog 68 #[.pointer (some ⟨b, 0, none⟩)] w fun e w' => e = .returned (.pointer (some ⟨b, 0, none⟩)) ∧ w' = w := by
  go_enter Try.func68, Try.ntmps68
  go_wp2
  go_ret
  exact ⟨rfl, rfl⟩
theorem to1_call (b : Nat) (w : World) : (callFunc 68 #[.pointer (some ⟨b, 0, none⟩)]).run Try.prog w = .ok (.enter 68 #[.pointer (some ⟨b, 0, none⟩)]) w := by kernel_rfl
theorem m_set1 (w : World) : (method 278 145 fa1 "analemma/setup.set").run Try.prog w = .ok (132, fa1) w := by kernel_rfl
theorem m_check1 (w : World) : (method 278 145 fa1 "analemma/setup.check").run Try.prog w = .ok (131, fa1) w := by kernel_rfl
theorem m_called1 (w : World) : (method 278 145 fa1 "analemma/setup.called").run Try.prog w = .ok (130, fa1) w := by kernel_rfl
theorem setf1 (b : Nat) (old : Value) (w : World) (hc : w.cell? ⟨b, 0, none⟩ = some old) (hf : w.frozen? ⟨b, 0, none⟩ = false) (hb : b < w.heap.size) :
    Calls Try.prog 132 #[fa1, .pointer (some ⟨b, 0, none⟩)] w fun e w' => e = .returned (.tuple #[]) ∧ Below w.heap.size (w.setCell ⟨b, 0, none⟩ (.float .f64 4593671619917905920)) w' := by
  have hc' : w.cell? ⟨b, 0 + 0, none⟩ = some old := hc
  have hf' : w.frozen? ⟨b, 0 + 0, none⟩ = false := hf
  exact set_float _ _ _ _ _ _ b 0 0 old w hc' hf' hb (at1_call b) (at1_any b)
set_option maxHeartbeats 400000 in
theorem at2_any (b : Nat) (w : World) : Calls Try.prog 69 #[.pointer (some ⟨b, 0, none⟩)] w fun e w' => e = .returned (.pointer (some ⟨b, 1, none⟩)) ∧ w' = w := by
  go_enter Try.func69, Try.ntmps69
  go_wp2
  go_ret
  exact ⟨rfl, rfl⟩
theorem at2_call (b : Nat) (w : World) : (callFunc 69 #[.pointer (some ⟨b, 0, none⟩)]).run Try.prog w = .ok (.enter 69 #[.pointer (some ⟨b, 0, none⟩)]) w := by kernel_rfl
set_option maxHeartbeats 400000 in
theorem to2_any (b : Nat) (w : World) : Calls Try.prog 70 #[.pointer (some ⟨b, 0, none⟩)] w fun e w' => e = .returned (.pointer (some ⟨b, 1, none⟩)) ∧ w' = w := by
  go_enter Try.func70, Try.ntmps70
  go_wp2
  go_ret
  exact ⟨rfl, rfl⟩
theorem to2_call (b : Nat) (w : World) : (callFunc 70 #[.pointer (some ⟨b, 0, none⟩)]).run Try.prog w = .ok (.enter 70 #[.pointer (some ⟨b, 0, none⟩)]) w := by kernel_rfl
theorem m_set2 (w : World) : (method 278 145 fa2 "analemma/setup.set").run Try.prog w = .ok (132, fa2) w := by kernel_rfl
theorem m_check2 (w : World) : (method 278 145 fa2 "analemma/setup.check").run Try.prog w = .ok (131, fa2) w := by kernel_rfl
theorem m_called2 (w : World) : (method 278 145 fa2 "analemma/setup.called").run Try.prog w = .ok (130, fa2) w := by kernel_rfl
theorem setf2 (b : Nat) (old : Value) (w : World) (hc : w.cell? ⟨b, 1, none⟩ = some old) (hf : w.frozen? ⟨b, 1, none⟩ = false) (hb : b < w.heap.size) :
    Calls Try.prog 132 #[fa2, .pointer (some ⟨b, 0, none⟩)] w fun e w' => e = .returned (.tuple #[]) ∧ Below w.heap.size (w.setCell ⟨b, 1, none⟩ (.float .f64 4643985272004935680)) w' := by
  have hc' : w.cell? ⟨b, 0 + 1, none⟩ = some old := hc
  have hf' : w.frozen? ⟨b, 0 + 1, none⟩ = false := hf
  exact set_float _ _ _ _ _ _ b 0 1 old w hc' hf' hb (at2_call b) (at2_any b)
set_option maxHeartbeats 400000 in
theorem at3_any (b : Nat) (w : World) : Calls Try.prog 71 #[.pointer (some ⟨b, 0, none⟩)] w fun e w' => e = .returned (.pointer (some ⟨b, 2, none⟩)) ∧ w' = w := by
  go_enter Try.func71, Try.ntmps71
  go_wp2
  go_ret
  exact ⟨rfl, rfl⟩
theorem at3_call (b : Nat) (w : World) : (callFunc 71 #[.pointer (some ⟨b, 0, none⟩)]).run Try.prog w = .ok (.enter 71 #[.pointer (some ⟨b, 0, none⟩)]) w := by kernel_rfl
set_option maxHeartbeats 400000 in
theorem to3_any (b : Nat) (w : World) : Calls Try.prog 72 #[.pointer (some ⟨b, 0, none⟩)] w fun e w' => e = .returned (.pointer (some ⟨b, 2, none⟩)) ∧ w' = w := by
  go_enter Try.func72, Try.ntmps72
  go_wp2
  go_ret
  exact ⟨rfl, rfl⟩
theorem to3_call (b : Nat) (w : World) : (callFunc 72 #[.pointer (some ⟨b, 0, none⟩)]).run Try.prog w = .ok (.enter 72 #[.pointer (some ⟨b, 0, none⟩)]) w := by kernel_rfl
theorem m_set3 (w : World) : (method 278 145 fa3 "analemma/setup.set").run Try.prog w = .ok (132, fa3) w := by kernel_rfl
theorem m_check3 (w : World) : (method 278 145 fa3 "analemma/setup.check").run Try.prog w = .ok (131, fa3) w := by kernel_rfl
theorem m_called3 (w : World) : (method 278 145 fa3 "analemma/setup.called").run Try.prog w = .ok (130, fa3) w := by kernel_rfl
theorem setf3 (b : Nat) (old : Value) (w : World) (hc : w.cell? ⟨b, 2, none⟩ = some old) (hf : w.frozen? ⟨b, 2, none⟩ = false) (hb : b < w.heap.size) :
    Calls Try.prog 132 #[fa3, .pointer (some ⟨b, 0, none⟩)] w fun e w' => e = .returned (.tuple #[]) ∧ Below w.heap.size (w.setCell ⟨b, 2, none⟩ (.float .f64 4652007308841189376)) w' := by
  have hc' : w.cell? ⟨b, 0 + 2, none⟩ = some old := hc
  have hf' : w.frozen? ⟨b, 0 + 2, none⟩ = false := hf
  exact set_float _ _ _ _ _ _ b 0 2 old w hc' hf' hb (at3_call b) (at3_any b)
set_option maxHeartbeats 400000 in
theorem at4_any (b : Nat) (w : World) : Calls Try.prog 73 #[.pointer (some ⟨b, 0, none⟩)] w fun e w' => e = .returned (.pointer (some ⟨b, 3, none⟩)) ∧ w' = w := by
  go_enter Try.func73, Try.ntmps73
  go_wp2
  go_ret
  exact ⟨rfl, rfl⟩
theorem at4_call (b : Nat) (w : World) : (callFunc 73 #[.pointer (some ⟨b, 0, none⟩)]).run Try.prog w = .ok (.enter 73 #[.pointer (some ⟨b, 0, none⟩)]) w := by kernel_rfl
set_option maxHeartbeats 400000 in
theorem to4_any (b : Nat) (w : World) : Calls Try.prog 74 #[.pointer (some ⟨b, 0, none⟩)] w fun e w' => e = .returned (.pointer (some ⟨b, 3, none⟩)) ∧ w' = w := by
  go_enter Try.func74, Try.ntmps74
  go_wp2
  go_ret
  exact ⟨rfl, rfl⟩
theorem to4_call (b : Nat) (w : World) : (callFunc 74 #[.pointer (some ⟨b, 0, none⟩)]).run Try.prog w = .ok (.enter 74 #[.pointer (some ⟨b, 0, none⟩)]) w := by kernel_rfl
theorem m_set4 (w : World) : (method 278 145 fa4 "analemma/setup.set").run Try.prog w = .ok (132, fa4) w := by kernel_rfl
theorem m_check4 (w : World) : (method 278 145 fa4 "analemma/setup.check").run Try.prog w = .ok (131, fa4) w := by kernel_rfl
theorem m_called4 (w : World) : (method 278 145 fa4 "analemma/setup.called").run Try.prog w = .ok (130, fa4) w := by kernel_rfl
theorem setf4 (b : Nat) (old : Value) (w : World) (hc : w.cell? ⟨b, 3, none⟩ = some old) (hf : w.frozen? ⟨b, 3, none⟩ = false) (hb : b < w.heap.size) :
    Calls Try.prog 132 #[fa4, .pointer (some ⟨b, 0, none⟩)] w fun e w' => e = .returned (.tuple #[]) ∧ Below w.heap.size (w.setCell ⟨b, 3, none⟩ (.float .f64 4557750909289998844)) w' := by
  have hc' : w.cell? ⟨b, 0 + 3, none⟩ = some old := hc
  have hf' : w.frozen? ⟨b, 0 + 3, none⟩ = false := hf
  exact set_float _ _ _ _ _ _ b 0 3 old w hc' hf' hb (at4_call b) (at4_any b)
set_option maxHeartbeats 400000 in
theorem at5_any (b : Nat) (w : World) : Calls Try.prog 75 #[.pointer (some ⟨b, 0, none⟩)] w fun e w' => e = .returned (.pointer (some ⟨b, 4, none⟩)) ∧ w' = w := by
  go_enter Try.func75, Try.ntmps75
  go_wp2
  go_ret
  exact ⟨rfl, rfl⟩
theorem at5_call (b : Nat) (w : World) : (callFunc 75 #[.pointer (some ⟨b, 0, none⟩)]).run Try.prog w = .ok (.enter 75 #[.pointer (some ⟨b, 0, none⟩)]) w := by kernel_rfl
set_option maxHeartbeats 400000 in
theorem to5_any (b : Nat) (w : World) : Calls Try.prog 76 #[.pointer (some ⟨b, 0, none⟩)] w fun e w' => e = .returned (.pointer (some ⟨b, 4, none⟩)) ∧ w' = w := by
  go_enter Try.func76, Try.ntmps76
  go_wp2
  go_ret
  exact ⟨rfl, rfl⟩
theorem to5_call (b : Nat) (w : World) : (callFunc 76 #[.pointer (some ⟨b, 0, none⟩)]).run Try.prog w = .ok (.enter 76 #[.pointer (some ⟨b, 0, none⟩)]) w := by kernel_rfl
theorem m_set5 (w : World) : (method 278 145 fa5 "analemma/setup.set").run Try.prog w = .ok (132, fa5) w := by kernel_rfl
theorem m_check5 (w : World) : (method 278 145 fa5 "analemma/setup.check").run Try.prog w = .ok (131, fa5) w := by kernel_rfl
theorem m_called5 (w : World) : (method 278 145 fa5 "analemma/setup.called").run Try.prog w = .ok (130, fa5) w := by kernel_rfl
theorem setf5 (b : Nat) (old : Value) (w : World) (hc : w.cell? ⟨b, 4, none⟩ = some old) (hf : w.frozen? ⟨b, 4, none⟩ = false) (hb : b < w.heap.size) :
    Calls Try.prog 132 #[fa5, .pointer (some ⟨b, 0, none⟩)] w fun e w' => e = .returned (.tuple #[]) ∧ Below w.heap.size (w.setCell ⟨b, 4, none⟩ (.float .f64 4534972062662729065)) w' := by
  have hc' : w.cell? ⟨b, 0 + 4, none⟩ = some old := hc
  have hf' : w.frozen? ⟨b, 0 + 4, none⟩ = false := hf
  exact set_float _ _ _ _ _ _ b 0 4 old w hc' hf' hb (at5_call b) (at5_any b)
set_option maxHeartbeats 400000 in
theorem at6_any (b : Nat) (w : World) : Calls Try.prog 77 #[.pointer (some ⟨b, 0, none⟩)] w fun e w' => e = .returned (.pointer (some ⟨b, 5, none⟩)) ∧ w' = w := by
  go_enter Try.func77, Try.ntmps77
  go_wp2
  go_ret
  exact ⟨rfl, rfl⟩
theorem at6_call (b : Nat) (w : World) : (callFunc 77 #[.pointer (some ⟨b, 0, none⟩)]).run Try.prog w = .ok (.enter 77 #[.pointer (some ⟨b, 0, none⟩)]) w := by kernel_rfl
set_option maxHeartbeats 400000 in
theorem to6_any (b : Nat) (w : World) : Calls Try.prog 78 #[.pointer (some ⟨b, 0, none⟩)] w fun e w' => e = .returned (.pointer (some ⟨b, 5, none⟩)) ∧ w' = w := by
  go_enter Try.func78, Try.ntmps78
  go_wp2
  go_ret
  exact ⟨rfl, rfl⟩
theorem to6_call (b : Nat) (w : World) : (callFunc 78 #[.pointer (some ⟨b, 0, none⟩)]).run Try.prog w = .ok (.enter 78 #[.pointer (some ⟨b, 0, none⟩)]) w := by kernel_rfl
theorem m_set6 (w : World) : (method 278 145 fa6 "analemma/setup.set").run Try.prog w = .ok (132, fa6) w := by kernel_rfl
theorem m_check6 (w : World) : (method 278 145 fa6 "analemma/setup.check").run Try.prog w = .ok (131, fa6) w := by kernel_rfl
theorem m_called6 (w : World) : (method 278 145 fa6 "analemma/setup.called").run Try.prog w = .ok (130, fa6) w := by kernel_rfl
theorem setf6 (b : Nat) (old : Value) (w : World) (hc : w.cell? ⟨b, 5, none⟩ = some old) (hf : w.frozen? ⟨b, 5, none⟩ = false) (hb : b < w.heap.size) :
    Calls Try.prog 132 #[fa6, .pointer (some ⟨b, 0, none⟩)] w fun e w' => e = .returned (.tuple #[]) ∧ Below w.heap.size (w.setCell ⟨b, 5, none⟩ (.float .f64 4609434218613702656)) w' := by
  have hc' : w.cell? ⟨b, 0 + 5, none⟩ = some old := hc
  have hf' : w.frozen? ⟨b, 0 + 5, none⟩ = false := hf
  exact set_float _ _ _ _ _ _ b 0 5 old w hc' hf' hb (at6_call b) (at6_any b)
set_option maxHeartbeats 400000 in
theorem at7_any (b : Nat) (w : World) : Calls Try.prog 79 #[.pointer (some ⟨b, 0, none⟩)] w fun e w' => e = .returned (.pointer (some ⟨b, 6, none⟩)) ∧ w' = w := by
  go_enter Try.func79, Try.ntmps79
  go_wp2
  go_ret
  exact ⟨rfl, rfl⟩
theorem at7_call (b : Nat) (w : World) : (callFunc 79 #[.pointer (some ⟨b, 0, none⟩)]).run Try.prog w = .ok (.enter 79 #[.pointer (some ⟨b, 0, none⟩)]) w := by kernel_rfl
set_option maxHeartbeats 400000 in
theorem to7_any (b : Nat) (w : World) : Calls Try.prog 80 #[.pointer (some ⟨b, 0, none⟩)] w fun e w' => e = .returned (.pointer (some ⟨b, 6, none⟩)) ∧ w' = w := by
  go_enter Try.func80, Try.ntmps80
  go_wp2
  go_ret
  exact ⟨rfl, rfl⟩
theorem to7_call (b : Nat) (w : World) : (callFunc 80 #[.pointer (some ⟨b, 0, none⟩)]).run Try.prog w = .ok (.enter 80 #[.pointer (some ⟨b, 0, none⟩)]) w := by kernel_rfl
theorem m_set7 (w : World) : (method 278 145 fa7 "analemma/setup.set").run Try.prog w = .ok (132, fa7) w := by kernel_rfl
theorem m_check7 (w : World) : (method 278 145 fa7 "analemma/setup.check").run Try.prog w = .ok (131, fa7) w := by kernel_rfl
theorem m_called7 (w : World) : (method 278 145 fa7 "analemma/setup.called").run Try.prog w = .ok (130, fa7) w := by kernel_rfl
theorem setf7 (b : Nat) (old : Value) (w : World) (hc : w.cell? ⟨b, 6, none⟩ = some old) (hf : w.frozen? ⟨b, 6, none⟩ = false) (hb : b < w.heap.size) :
    Calls Try.prog 132 #[fa7, .pointer (some ⟨b, 0, none⟩)] w fun e w' => e = .returned (.tuple #[]) ∧ Below w.heap.size (w.setCell ⟨b, 6, none⟩ (.float .f64 4616189618054758400)) w' := by
  have hc' : w.cell? ⟨b, 0 + 6, none⟩ = some old := hc
  have hf' : w.frozen? ⟨b, 0 + 6, none⟩ = false := hf
  exact set_float _ _ _ _ _ _ b 0 6 old w hc' hf' hb (at7_call b) (at7_any b)
set_option maxHeartbeats 400000 in
theorem at8_any (b : Nat) (w : World) : Calls Try.prog 82 #[.pointer (some ⟨b, 0, none⟩)] w fun e w' => e = .returned (.pointer (some ⟨b, 7, none⟩)) ∧ w' = w := by
  go_enter Try.func82, Try.ntmps82
  go_wp2
  go_ret
  exact ⟨rfl, rfl⟩
theorem at8_call (b : Nat) (w : World) : (callFunc 82 #[.pointer (some ⟨b, 0, none⟩)]).run Try.prog w = .ok (.enter 82 #[.pointer (some ⟨b, 0, none⟩)]) w := by kernel_rfl
set_option maxHeartbeats 400000 in
theorem to8_any (b : Nat) (w : World) : Calls Try.prog 83 #[.pointer (some ⟨b, 0, none⟩)] w fun e w' => e = .returned (.pointer (some ⟨b, 7, none⟩)) ∧ w' = w := by
  go_enter Try.func83, Try.ntmps83
  go_wp2
  go_ret
  exact ⟨rfl, rfl⟩
theorem to8_call (b : Nat) (w : World) : (callFunc 83 #[.pointer (some ⟨b, 0, none⟩)]).run Try.prog w = .ok (.enter 83 #[.pointer (some ⟨b, 0, none⟩)]) w := by kernel_rfl
theorem m_set8 (w : World) : (method 278 148 fa8 "analemma/setup.set").run Try.prog w = .ok (135, fa8) w := by kernel_rfl
theorem m_check8 (w : World) : (method 278 148 fa8 "analemma/setup.check").run Try.prog w = .ok (134, fa8) w := by kernel_rfl
theorem m_called8 (w : World) : (method 278 148 fa8 "analemma/setup.called").run Try.prog w = .ok (133, fa8) w := by kernel_rfl
theorem setf8 (b : Nat) (old : Value) (w : World) (hc : w.cell? ⟨b, 7, none⟩ = some old) (hf : w.frozen? ⟨b, 7, none⟩ = false) (hb : b < w.heap.size) :
    Calls Try.prog 135 #[fa8, .pointer (some ⟨b, 0, none⟩)] w fun e w' => e = .returned (.tuple #[]) ∧ Below w.heap.size (w.setCell ⟨b, 7, none⟩ (.int .i64 6)) w' := by
  have hc' : w.cell? ⟨b, 0 + 7, none⟩ = some old := hc
  have hf' : w.frozen? ⟨b, 0 + 7, none⟩ = false := hf
  exact set_int _ _ _ _ _ _ b 0 7 old w hc' hf' hb (at8_call b) (at8_any b)
set_option maxHeartbeats 400000 in
theorem at9_any (b : Nat) (w : World) : Calls Try.prog 84 #[.pointer (some ⟨b, 0, none⟩)] w fun e w' => e = .returned (.pointer (some ⟨b, 8, none⟩)) ∧ w' = w := by
  go_enter Try.func84, Try.ntmps84
  go_wp2
  go_ret
  exact ⟨rfl, rfl⟩
theorem at9_call (b : Nat) (w : World) : (callFunc 84 #[.pointer (some ⟨b, 0, none⟩)]).run Try.prog w = .ok (.enter 84 #[.pointer (some ⟨b, 0, none⟩)]) w := by kernel_rfl
set_option maxHeartbeats 400000 in
theorem to9_any (b : Nat) (w : World) : Calls Try.prog 85 #[.pointer (some ⟨b, 0, none⟩)] w fun e w' => e = .returned (.pointer (some ⟨b, 8, none⟩)) ∧ w' = w := by
  go_enter Try.func85, Try.ntmps85
  go_wp2
  go_ret
  exact ⟨rfl, rfl⟩
theorem to9_call (b : Nat) (w : World) : (callFunc 85 #[.pointer (some ⟨b, 0, none⟩)]).run Try.prog w = .ok (.enter 85 #[.pointer (some ⟨b, 0, none⟩)]) w := by kernel_rfl
theorem m_set9 (w : World) : (method 278 148 fa9 "analemma/setup.set").run Try.prog w = .ok (135, fa9) w := by kernel_rfl
theorem m_check9 (w : World) : (method 278 148 fa9 "analemma/setup.check").run Try.prog w = .ok (134, fa9) w := by kernel_rfl
theorem m_called9 (w : World) : (method 278 148 fa9 "analemma/setup.called").run Try.prog w = .ok (133, fa9) w := by kernel_rfl
theorem setf9 (b : Nat) (old : Value) (w : World) (hc : w.cell? ⟨b, 8, none⟩ = some old) (hf : w.frozen? ⟨b, 8, none⟩ = false) (hb : b < w.heap.size) :
    Calls Try.prog 135 #[fa9, .pointer (some ⟨b, 0, none⟩)] w fun e w' => e = .returned (.tuple #[]) ∧ Below w.heap.size (w.setCell ⟨b, 8, none⟩ (.int .i64 10)) w' := by
  have hc' : w.cell? ⟨b, 0 + 8, none⟩ = some old := hc
  have hf' : w.frozen? ⟨b, 0 + 8, none⟩ = false := hf
  exact set_int _ _ _ _ _ _ b 0 8 old w hc' hf' hb (at9_call b) (at9_any b)
set_option maxHeartbeats 400000 in
theorem at10_any (b : Nat) (w : World) : Calls Try.prog 86 #[.pointer (some ⟨b, 0, none⟩)] w fun e w' => e = .returned (.pointer (some ⟨b, 9, none⟩)) ∧ w' = w := by
  go_enter Try.func86, Try.ntmps86
  go_wp2
  go_ret
  exact ⟨rfl, rfl⟩
theorem at10_call (b : Nat) (w : World) : (callFunc 86 #[.pointer (some ⟨b, 0, none⟩)]).run Try.prog w = .ok (.enter 86 #[.pointer (some ⟨b, 0, none⟩)]) w := by kernel_rfl
set_option maxHeartbeats 400000 in
theorem to10_any (b : Nat) (w : World) : Calls Try.prog 87 #[.pointer (some ⟨b, 0, none⟩)] w fun e w' => e = .returned (.pointer (some ⟨b, 9, none⟩)) ∧ w' = w := by
  go_enter Try.func87, Try.ntmps87
  go_wp2
  go_ret
  exact ⟨rfl, rfl⟩
theorem to10_call (b : Nat) (w : World) : (callFunc 87 #[.pointer (some ⟨b, 0, none⟩)]).run Try.prog w = .ok (.enter 87 #[.pointer (some ⟨b, 0, none⟩)]) w := by kernel_rfl
theorem m_set10 (w : World) : (method 278 148 fa10 "analemma/setup.set").run Try.prog w = .ok (135, fa10) w := by kernel_rfl
theorem m_check10 (w : World) : (method 278 148 fa10 "analemma/setup.check").run Try.prog w = .ok (134, fa10) w := by kernel_rfl
theorem m_called10 (w : World) : (method 278 148 fa10 "analemma/setup.called").run Try.prog w = .ok (133, fa10) w := by kernel_rfl
theorem setf10 (b : Nat) (old : Value) (w : World) (hc : w.cell? ⟨b, 9, none⟩ = some old) (hf : w.frozen? ⟨b, 9, none⟩ = false) (hb : b < w.heap.size) :
    Calls Try.prog 135 #[fa10, .pointer (some ⟨b, 0, none⟩)] w fun e w' => e = .returned (.tuple #[]) ∧ Below w.heap.size (w.setCell ⟨b, 9, none⟩ (.int .i64 0)) w' := by
  have hc' : w.cell? ⟨b, 0 + 9, none⟩ = some old := hc
  have hf' : w.frozen? ⟨b, 0 + 9, none⟩ = false := hf
  exact set_int _ _ _ _ _ _ b 0 9 old w hc' hf' hb (at10_call b) (at10_any b)
set_option maxHeartbeats 400000 in
theorem at11_any (b : Nat) (w : World) : Calls Try.prog 88 #[.pointer (some ⟨b, 0, none⟩)] w fun e w' => e = .returned (.pointer (some ⟨b, 10, none⟩)) ∧ w' = w := by
  go_enter Try.func88, Try.ntmps88
  go_wp2
  go_ret
  exact ⟨rfl, rfl⟩
theorem at11_call (b : Nat) (w : World) : (callFunc 88 #[.pointer (some ⟨b, 0, none⟩)]).run Try.prog w = .ok (.enter 88 #[.pointer (some ⟨b, 0, none⟩)]) w := by kernel_rfl
set_option maxHeartbeats 400000 in
theorem to11_any (b : Nat) (w : World) : Calls Try.prog 89 #[.pointer (some ⟨b, 0, none⟩)] w fun e w' => e = .returned (.pointer (some ⟨b, 10, none⟩)) ∧ w' = w := by
  go_enter Try.func89, Try.ntmps89
  go_wp2
  go_ret
  exact ⟨rfl, rfl⟩
theorem to11_call (b : Nat) (w : World) : (callFunc 89 #[.pointer (some ⟨b, 0, none⟩)]).run Try.prog w = .ok (.enter 89 #[.pointer (some ⟨b, 0, none⟩)]) w := by kernel_rfl
theorem m_set11 (w : World) : (method 278 148 fa11 "analemma/setup.set").run Try.prog w = .ok (135, fa11) w := by kernel_rfl
theorem m_check11 (w : World) : (method 278 148 fa11 "analemma/setup.check").run Try.prog w = .ok (134, fa11) w := by kernel_rfl
theorem m_called11 (w : World) : (method 278 148 fa11 "analemma/setup.called").run Try.prog w = .ok (133, fa11) w := by kernel_rfl
theorem setf11 (b : Nat) (old : Value) (w : World) (hc : w.cell? ⟨b, 10, none⟩ = some old) (hf : w.frozen? ⟨b, 10, none⟩ = false) (hb : b < w.heap.size) :
    Calls Try.prog 135 #[fa11, .pointer (some ⟨b, 0, none⟩)] w fun e w' => e = .returned (.tuple #[]) ∧ Below w.heap.size (w.setCell ⟨b, 10, none⟩ (.int .i64 1)) w' := by
  have hc' : w.cell? ⟨b, 0 + 10, none⟩ = some old := hc
  have hf' : w.frozen? ⟨b, 0 + 10, none⟩ = false := hf
  exact set_int _ _ _ _ _ _ b 0 10 old w hc' hf' hb (at11_call b) (at11_any b)
set_option maxHeartbeats 400000 in
theorem at12_any (b : Nat) (w : World) : Calls Try.prog 90 #[.pointer (some ⟨b, 0, none⟩)] w fun e w' => e = .returned (.pointer (some ⟨b, 11, none⟩)) ∧ w' = w := by
  go_enter Try.func90, Try.ntmps90
  go_wp2
  go_ret
  exact ⟨rfl, rfl⟩
theorem at12_call (b : Nat) (w : World) : (callFunc 90 #[.pointer (some ⟨b, 0, none⟩)]).run Try.prog w = .ok (.enter 90 #[.pointer (some ⟨b, 0, none⟩)]) w := by kernel_rfl
set_option maxHeartbeats 400000 in
theorem to12_any (b : Nat) (w : World) : Calls Try.prog 91 #[.pointer (some ⟨b, 0, none⟩)] w fun e w' => e = .returned (.pointer (some ⟨b, 11, none⟩)) ∧ w' = w := by
  go_enter Try.func91, Try.ntmps91
  go_wp2
  go_ret
  exact ⟨rfl, rfl⟩
theorem to12_call (b : Nat) (w : World) : (callFunc 91 #[.pointer (some ⟨b, 0, none⟩)]).run Try.prog w = .ok (.enter 91 #[.pointer (some ⟨b, 0, none⟩)]) w := by kernel_rfl
theorem m_set12 (w : World) : (method 278 148 fa12 "analemma/setup.set").run Try.prog w = .ok (135, fa12) w := by kernel_rfl
theorem m_check12 (w : World) : (method 278 148 fa12 "analemma/setup.check").run Try.prog w = .ok (134, fa12) w := by kernel_rfl
theorem m_called12 (w : World) : (method 278 148 fa12 "analemma/setup.called").run Try.prog w = .ok (133, fa12) w := by kernel_rfl
theorem setf12 (b : Nat) (old : Value) (w : World) (hc : w.cell? ⟨b, 11, none⟩ = some old) (hf : w.frozen? ⟨b, 11, none⟩ = false) (hb : b < w.heap.size) :
    Calls Try.prog 135 #[fa12, .pointer (some ⟨b, 0, none⟩)] w fun e w' => e = .returned (.tuple #[]) ∧ Below w.heap.size (w.setCell ⟨b, 11, none⟩ (.int .i64 3)) w' := by
  have hc' : w.cell? ⟨b, 0 + 11, none⟩ = some old := hc
  have hf' : w.frozen? ⟨b, 0 + 11, none⟩ = false := hf
  exact set_int _ _ _ _ _ _ b 0 11 old w hc' hf' hb (at12_call b) (at12_any b)

theorem heap_new3 (w : World) (a b c : Obj) : (((w.alloc a).alloc b).alloc c).heap[w.heap.size + 2]? = some c := by
  have h := heap_alloc_new ((w.alloc a).alloc b) c
  have e : ((w.alloc a).alloc b).heap.size = w.heap.size + 2 := by simp
  rwa [e] at h
theorem below_setRow {B : Nat} {a w : World} (h : Below B a w) {g : Nat} (hg : B ≤ g) (cs : Array Value) : Below B a (w.setRow g cs) :=
  h.trans ⟨rfl, rfl, rfl, by simp, fun k hk => by
    simp only [World.setRow, Array.getElem?_modify]
    rw [if_neg (by omega)]⟩
theorem std_round {w wr w' : World} {k : Nat} {v : Value} (h0 : wr.heap[w.heap.size]? = some (.cells stc0 75 (0, 0))) (h1 : wr.heap[w.heap.size + 1]? = some (.cells (stc k) 75 (0, 0)))
    (h2 : wr.heap[w.heap.size + 2]? = some (.cells fvs 108 (0, 0))) (hz : w.heap.size + 2 < wr.heap.size) (hb : Below w.heap.size w wr) (hb1 : Below wr.heap.size (wr.setCell ⟨w.heap.size + 1, k, none⟩ v) w') (hs : (stc k).setIfInBounds k v = stc (k + 1)) :
    w'.heap[w.heap.size]? = some (.cells stc0 75 (0, 0)) ∧ w'.heap[w.heap.size + 1]? = some (.cells (stc (k + 1)) 75 (0, 0)) ∧ w'.heap[w.heap.size + 2]? = some (.cells fvs 108 (0, 0)) ∧ w.heap.size + 2 < w'.heap.size ∧ Below w.heap.size w w' := by
  have hsz := hb1.size
  rw [size_setCell] at hsz
  refine ⟨?_, ?_, ?_, by omega, (hb.setCell (p := ⟨w.heap.size + 1, k, none⟩) (by simp) v).trans (hb1.mono hb.size)⟩
  · rw [hb1.block _ (by omega)]; exact heap_setCell_ne h0 (by omega) v
  · rw [hb1.block _ (by omega), ← hs]; exact heap_setCell h1 v
  · rw [hb1.block _ (by omega)]; exact heap_setCell_ne h2 (by omega) v

set_option maxHeartbeats 4000000 in
theorem standard_any (w : World) : Calls Try.prog 34 #[] w fun e w' => e = .returned (.agg stc12) ∧ Below w.heap.size w w' := by
  go_enter Try.func34, Try.ntmps34
  go_wp2_with (with_reducible refine (fields_any _).mono ?_; rintro e w' ⟨rfl, rfl⟩)
  go_loopw [3, 6] (fun x i wr => ∃ k : Nat, k ≤ 12 ∧ i = .int .i64 k ∧ wr.heap[w.heap.size]? = some (.cells stc0 75 (0, 0)) ∧ wr.heap[w.heap.size + 1]? = some (.cells (stc k) 75 (0, 0)) ∧
      wr.heap[w.heap.size + 2]? = some (.cells fvs 108 (0, 0)) ∧ w.heap.size + 2 < wr.heap.size ∧ Below w.heap.size w wr) (fun _ i _ => 12 - (intOf i).toNat)
  case atStart =>
    refine ⟨0, by omega, rfl, ?_, ?_, ?_, by simp, (((Below.refl _ _).alloc (Nat.le_refl _) _).alloc (by simp) _).alloc (by simp; omega) _⟩
    · rw [Below.heap_alloc _ _ _ (by simp; omega), Below.heap_alloc _ _ _ (by simp)]; exact heap_alloc_new _ _
    · rw [Below.heap_alloc _ _ _ (by simp)]; exact heap_alloc2_new _ _ _
    · exact heap_new3 _ _ _ _
  case round =>
    obtain ⟨k, hk, rfl, h0, h1, h2, hz, hb⟩ := hrel
    by_cases e0 : k = 0
    · subst e0
      have c2 := cell_of_heap (o := 0) (v := .iface 145 fa1) h2 rfl
      have C1 := Lib.hid h1
      have C0 := Lib.hid h0
      have C2 := Lib.hid h2
      clear h0 h1 h2
      have hm := m_set1
      go_wp2_with fail
      refine (setf1 _ (.float .f64 0) _ (cell_of_heap C1.out rfl) (free_of_heap C1.out) (by omega)).mono ?_
      rintro e w' ⟨rfl, hb1⟩
      go_wp2_with fail
      exact ⟨⟨1, by omega, rfl, std_round C0.out C1.out C2.out hz hb hb1 rfl⟩, by simp [intOf]⟩
    by_cases e1 : k = 1
    · subst e1
      have c2 := cell_of_heap (o := 1) (v := .iface 145 fa2) h2 rfl
      have C1 := Lib.hid h1
      have C0 := Lib.hid h0
      have C2 := Lib.hid h2
      clear h0 h1 h2
      have hm := m_set2
      go_wp2_with fail
      refine (setf2 _ (.float .f64 0) _ (cell_of_heap C1.out rfl) (free_of_heap C1.out) (by omega)).mono ?_
      rintro e w' ⟨rfl, hb1⟩
      go_wp2_with fail
      exact ⟨⟨2, by omega, rfl, std_round C0.out C1.out C2.out hz hb hb1 rfl⟩, by simp [intOf]⟩
    by_cases e2 : k = 2
    · subst e2
      have c2 := cell_of_heap (o := 2) (v := .iface 145 fa3) h2 rfl
      have C1 := Lib.hid h1
      have C0 := Lib.hid h0
      have C2 := Lib.hid h2
      clear h0 h1 h2
      have hm := m_set3
      go_wp2_with fail
      refine (setf3 _ (.float .f64 0) _ (cell_of_heap C1.out rfl) (free_of_heap C1.out) (by omega)).mono ?_
      rintro e w' ⟨rfl, hb1⟩
      go_wp2_with fail
      exact ⟨⟨3, by omega, rfl, std_round C0.out C1.out C2.out hz hb hb1 rfl⟩, by simp [intOf]⟩
    by_cases e3 : k = 3
    · subst e3
      have c2 := cell_of_heap (o := 3) (v := .iface 145 fa4) h2 rfl
      have C1 := Lib.hid h1
      have C0 := Lib.hid h0
      have C2 := Lib.hid h2
      clear h0 h1 h2
      have hm := m_set4
      go_wp2_with fail
      refine (setf4 _ (.float .f64 0) _ (cell_of_heap C1.out rfl) (free_of_heap C1.out) (by omega)).mono ?_
      rintro e w' ⟨rfl, hb1⟩
      go_wp2_with fail
      exact ⟨⟨4, by omega, rfl, std_round C0.out C1.out C2.out hz hb hb1 rfl⟩, by simp [intOf]⟩
    by_cases e4 : k = 4
    · subst e4
      have c2 := cell_of_heap (o := 4) (v := .iface 145 fa5) h2 rfl
      have C1 := Lib.hid h1
      have C0 := Lib.hid h0
      have C2 := Lib.hid h2
      clear h0 h1 h2
      have hm := m_set5
      go_wp2_with fail
      refine (setf5 _ (.float .f64 0) _ (cell_of_heap C1.out rfl) (free_of_heap C1.out) (by omega)).mono ?_
      rintro e w' ⟨rfl, hb1⟩
      go_wp2_with fail
      exact ⟨⟨5, by omega, rfl, std_round C0.out C1.out C2.out hz hb hb1 rfl⟩, by simp [intOf]⟩
    by_cases e5 : k = 5
    · subst e5
      have c2 := cell_of_heap (o := 5) (v := .iface 145 fa6) h2 rfl
      have C1 := Lib.hid h1
      have C0 := Lib.hid h0
      have C2 := Lib.hid h2
      clear h0 h1 h2
      have hm := m_set6
      go_wp2_with fail
      refine (setf6 _ (.float .f64 0) _ (cell_of_heap C1.out rfl) (free_of_heap C1.out) (by omega)).mono ?_
      rintro e w' ⟨rfl, hb1⟩
      go_wp2_with fail
      exact ⟨⟨6, by omega, rfl, std_round C0.out C1.out C2.out hz hb hb1 rfl⟩, by simp [intOf]⟩
    by_cases e6 : k = 6
    · subst e6
      have c2 := cell_of_heap (o := 6) (v := .iface 145 fa7) h2 rfl
      have C1 := Lib.hid h1
      have C0 := Lib.hid h0
      have C2 := Lib.hid h2
      clear h0 h1 h2
      have hm := m_set7
      go_wp2_with fail
      refine (setf7 _ (.float .f64 0) _ (cell_of_heap C1.out rfl) (free_of_heap C1.out) (by omega)).mono ?_
      rintro e w' ⟨rfl, hb1⟩
      go_wp2_with fail
      exact ⟨⟨7, by omega, rfl, std_round C0.out C1.out C2.out hz hb hb1 rfl⟩, by simp [intOf]⟩
    by_cases e7 : k = 7
    · subst e7
      have c2 := cell_of_heap (o := 7) (v := .iface 148 fa8) h2 rfl
      have C1 := Lib.hid h1
      have C0 := Lib.hid h0
      have C2 := Lib.hid h2
      clear h0 h1 h2
      have hm := m_set8
      go_wp2_with fail
      refine (setf8 _ (.int .i64 0) _ (cell_of_heap C1.out rfl) (free_of_heap C1.out) (by omega)).mono ?_
      rintro e w' ⟨rfl, hb1⟩
      go_wp2_with fail
      exact ⟨⟨8, by omega, rfl, std_round C0.out C1.out C2.out hz hb hb1 rfl⟩, by simp [intOf]⟩
    by_cases e8 : k = 8
    · subst e8
      have c2 := cell_of_heap (o := 8) (v := .iface 148 fa9) h2 rfl
      have C1 := Lib.hid h1
      have C0 := Lib.hid h0
      have C2 := Lib.hid h2
      clear h0 h1 h2
      have hm := m_set9
      go_wp2_with fail
      refine (setf9 _ (.int .i64 0) _ (cell_of_heap C1.out rfl) (free_of_heap C1.out) (by omega)).mono ?_
      rintro e w' ⟨rfl, hb1⟩
      go_wp2_with fail
      exact ⟨⟨9, by omega, rfl, std_round C0.out C1.out C2.out hz hb hb1 rfl⟩, by simp [intOf]⟩
    by_cases e9 : k = 9
    · subst e9
      have c2 := cell_of_heap (o := 9) (v := .iface 148 fa10) h2 rfl
      have C1 := Lib.hid h1
      have C0 := Lib.hid h0
      have C2 := Lib.hid h2
      clear h0 h1 h2
      have hm := m_set10
      go_wp2_with fail
      refine (setf10 _ (.int .i64 0) _ (cell_of_heap C1.out rfl) (free_of_heap C1.out) (by omega)).mono ?_
      rintro e w' ⟨rfl, hb1⟩
      go_wp2_with fail
      exact ⟨⟨10, by omega, rfl, std_round C0.out C1.out C2.out hz hb hb1 rfl⟩, by simp [intOf]⟩
    by_cases e10 : k = 10
    · subst e10
      have c2 := cell_of_heap (o := 10) (v := .iface 148 fa11) h2 rfl
      have C1 := Lib.hid h1
      have C0 := Lib.hid h0
      have C2 := Lib.hid h2
      clear h0 h1 h2
      have hm := m_set11
      go_wp2_with fail
      refine (setf11 _ (.int .i64 0) _ (cell_of_heap C1.out rfl) (free_of_heap C1.out) (by omega)).mono ?_
      rintro e w' ⟨rfl, hb1⟩
      go_wp2_with fail
      exact ⟨⟨11, by omega, rfl, std_round C0.out C1.out C2.out hz hb hb1 rfl⟩, by simp [intOf]⟩
    by_cases e11 : k = 11
    · subst e11
      have c2 := cell_of_heap (o := 11) (v := .iface 148 fa12) h2 rfl
      have C1 := Lib.hid h1
      have C0 := Lib.hid h0
      have C2 := Lib.hid h2
      clear h0 h1 h2
      have hm := m_set12
      go_wp2_with fail
      refine (setf12 _ (.int .i64 0) _ (cell_of_heap C1.out rfl) (free_of_heap C1.out) (by omega)).mono ?_
      rintro e w' ⟨rfl, hb1⟩
      go_wp2_with fail
      exact ⟨⟨12, by omega, rfl, std_round C0.out C1.out C2.out hz hb hb1 rfl⟩, by simp [intOf]⟩
    · obtain rfl : k = 12 := by omega
      go_wp2_with (first | (refine wpList_load_row rfl 75 _ rfl _ rfl _ _ _ _ h1 Try.underlying75 rfl (by kernel_rfl) ?_) | (refine wpList_store_row rfl 75 _ _ rfl _ stc12 rfl rfl _ _ h0 (by kernel_rfl) rfl (by kernel_rfl) ?_))
      exact bodyPost_ret (v := .agg stc12) (results_cell_row rfl _ _ w.heap.size _ _ _ _ rfl (setRow_heap _ _ _ _ _ _ h0) Try.underlying75 rfl (by kernel_rfl)) rfl ⟨rfl, below_setRow hb (Nat.le_refl _) _⟩
end Go.Proofs.Ythhipnhnpjhaaaa
