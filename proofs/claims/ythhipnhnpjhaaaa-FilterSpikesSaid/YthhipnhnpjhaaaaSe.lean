/- The walks over package setup: its fields, the standard configuration, the faults of one, what is set. -/
import Derived.Test.YthhipnhnpjhaaaaFl
import Derived.StillTailTactics
import Derived.Lib.QuietBelow
namespace Go.Proofs.Ythhipnhnpjhaaaa
open Go.RowKit
set_option linter.unusedVariables false
set_option maxRecDepth 100000

/-- a region that draws: its first n operations read, or call quietly; what is left is in one order -/
theorem wp_region_tail {P : Program} {id : Nat} {Q : Exit → Act → World → Prop} {a : Act} {w : World} {l : List Oper} (n : Nat) (hm : P.follows .mixedOrders = true) (hB : Region.lexTailB .any l.toArray n = true)
    (h : wpStill P l.toArray w.drew (fun a' => wpList P l.toArray Q (l.drop n) a' w.drew) (l.take n) a) : (Code.region id l.toArray true).wp P Q a w :=
  wp_region_still_tail n hm hB h
theorem store_float (P : Program) (a : Addr) (k : FloatKind) (n : Nat) (m : Mode) (w : World) : (store a (.float k n) m).run P w = stored P w a (.float k n) m := run_store P w a _ m rfl
theorem Calls.regrown_of_same {P : Program} {f : FuncId} {args : Array Value} {w : World} {d : Nat} {os : Array Obj} {v : Value}
    (h : Calls P f args (Sort.grow (redrawn w d) os) fun e w' => e = .returned v ∧ w' = Sort.grow (redrawn w d) os) : Calls P f args (Sort.grow (redrawn w d) os) fun e w'' => e = .returned v ∧ ∃ p : Regrown, w'' = Sort.grow (redrawn w p.d) p.os :=
  h.mono fun _ _ ⟨he, hb⟩ => ⟨he, ⟨⟨d, os⟩, hb⟩⟩
theorem below_set {B : Nat} {w w' : World} (h : Below B w w') {a : Addr} (ha : a.block < B) (v : Value) : Below B (w.setCell a v) (w'.setCell a v) :=
  ⟨h.os, h.tape, h.output, by simpa [World.setCell] using h.size, fun k hk => by
    simp only [World.setCell, Array.getElem?_modify]
    rw [h.block k hk]⟩
theorem size_setCell (w : World) (a : Addr) (v : Value) : (w.setCell a v).heap.size = w.heap.size := by simp [World.setCell]

set_option maxHeartbeats 400000 in
theorem whole_any (n lo hi : Int) (w : World) :
    Calls Try.prog 100 #[.int .i64 n, .int .i64 lo, .int .i64 hi] w fun e w' => e = .returned (.tuple #[.int .i64 (sWhole n lo hi).1, .int .i64 (sWhole n lo hi).2]) ∧ w = w' := by
  by_cases h1 : n < lo
  · have Hf : Hid (sWhole n lo hi = (0, 100)) := Lib.hid (by simp only [sWhole]; rw [if_pos (Or.inl h1)])
    go_enter Try.func100, Try.ntmps100
    go_wp2
    go_ret2
    exact ⟨ret_two (by rw [Hf.out]) (by rw [Hf.out]), rfl⟩
  · by_cases h2 : n > hi
    · have Hf : Hid (sWhole n lo hi = (0, 100)) := Lib.hid (by simp only [sWhole]; rw [if_pos (Or.inr h2)])
      go_enter Try.func100, Try.ntmps100
      go_wp2
      go_ret2
      exact ⟨ret_two (by rw [Hf.out]) (by rw [Hf.out]), rfl⟩
    · have Hf : Hid (sWhole n lo hi = (n, 0)) := Lib.hid (by simp only [sWhole]; rw [if_neg (by omega)])
      go_enter Try.func100, Try.ntmps100
      go_wp2
      go_ret2
      exact ⟨ret_two (by rw [Hf.out]) (by rw [Hf.out]), rfl⟩

set_option maxHeartbeats 400000 in
theorem set_float (nm : ByteArray) (kat kto : Nat) (lo hi us : Nat) (b o i : Nat) (old : Value) (w : World) (hc : w.cell? ⟨b, o + i, none⟩ = some old) (hf : w.frozen? ⟨b, o + i, none⟩ = false) (hb : b < w.heap.size)
    (hk : ∀ w, (callFunc kat #[.pointer (some ⟨b, o, none⟩)]).run Try.prog w = .ok (.enter kat #[.pointer (some ⟨b, o, none⟩)]) w)
    (hat : ∀ w, Calls Try.prog kat #[.pointer (some ⟨b, o, none⟩)] w fun e w' => e = .returned (.pointer (some ⟨b, o + i, none⟩)) ∧ w' = w) :
    Calls Try.prog 132 #[.agg #[.string nm, .func (.func kat) #[] #[], .float .f64 lo, .float .f64 hi, .float .f64 us, .func (.func kto) #[] #[], .func (.func 99) #[] #[]], .pointer (some ⟨b, o, none⟩)] w
      fun e w' => e = .returned (.tuple #[]) ∧ Below w.heap.size (w.setCell ⟨b, o + i, none⟩ (.float .f64 us)) w' := by
  have Hat := Lib.hid hat
  clear hat
  have sf := store_float Try.prog
  go_enter Try.func132, Try.ntmps132
  go_wp2
  refine wp_region_tail 7 (by kernel_rfl) (by kernel_rfl) ?_
  simp only [List.take_succ_cons, List.take_zero, List.drop_succ_cons, List.drop_zero]
  repeat still_step
  refine wpStill_step (fun K hK => ?_)
  go_simp
  refine ⟨_, Hat.out _, hK _ ?_⟩
  clear hK K
  repeat still_step
  refine wpStill_nil ?_
  go_wp2
  go_end0
  exact ⟨rfl, ((Below.refl _ _).alloc (Nat.le_of_eq (size_setCell _ _ _).symm) _).drew⟩

set_option maxHeartbeats 800000 in
theorem check_float (nm : ByteArray) (kat kto : Nat) (lo hi us x : Nat) (b o i pb po : Nat) (old : Value) (w : World) (hfb : x < 18446744073709551616) (hlo : lo < 18446744073709551616) (hhi : hi < 18446744073709551616) (hc : w.cell? ⟨b, o + i, none⟩ = some (.float .f64 x)) (hb : b < w.heap.size)
    (hp : w.cell? ⟨pb, po + i, none⟩ = some old) (hf : w.frozen? ⟨pb, po + i, none⟩ = false) (hpb : pb < w.heap.size)
    (hk : ∀ w, (callFunc kat #[.pointer (some ⟨b, o, none⟩)]).run Try.prog w = .ok (.enter kat #[.pointer (some ⟨b, o, none⟩)]) w)
    (hat : ∀ w, Calls Try.prog kat #[.pointer (some ⟨b, o, none⟩)] w fun e w' => e = .returned (.pointer (some ⟨b, o + i, none⟩)) ∧ w' = w)
    (hk2 : ∀ w, (callFunc kto #[.pointer (some ⟨pb, po, none⟩)]).run Try.prog w = .ok (.enter kto #[.pointer (some ⟨pb, po, none⟩)]) w)
    (hat2 : ∀ w, Calls Try.prog kto #[.pointer (some ⟨pb, po, none⟩)] w fun e w' => e = .returned (.pointer (some ⟨pb, po + i, none⟩)) ∧ w' = w) :
    Calls Try.prog 131 #[.agg #[.string nm, .func (.func kat) #[] #[], .float .f64 lo, .float .f64 hi, .float .f64 us, .func (.func kto) #[] #[], .func (.func 99) #[] #[]], .pointer (some ⟨b, o, none⟩), .pointer (some ⟨pb, po, none⟩)] w
      fun e w' => e = .returned (.int .i64 (fWithin x lo hi).2) ∧ Below w.heap.size (w.setCell ⟨pb, po + i, none⟩ (.int .i64 (fWithin x lo hi).1)) w' := by
  have Hat := Lib.hid hat
  clear hat
  have Hat2 := Lib.hid hat2
  clear hat2
  go_enter Try.func131, Try.ntmps131
  go_wp2
  obtain ⟨W, HW, q6, q1, q2, q3, qx⟩ : ∃ W, Hid (w.alloc (.cells #[.string nm, .func (.func kat) #[] #[], .float .f64 lo, .float .f64 hi, .float .f64 us, .func (.func kto) #[] #[], .func (.func 99) #[] #[]] 145) = W) ∧
      (∀ d os, (Sort.grow (redrawn W d) os).cell? ⟨w.heap.size, 6, none⟩ = some (.func (.func 99) #[] #[])) ∧ (∀ d os, (Sort.grow (redrawn W d) os).cell? ⟨w.heap.size, 1, none⟩ = some (.func (.func kat) #[] #[])) ∧
      (∀ d os, (Sort.grow (redrawn W d) os).cell? ⟨w.heap.size, 2, none⟩ = some (.float .f64 lo)) ∧ (∀ d os, (Sort.grow (redrawn W d) os).cell? ⟨w.heap.size, 3, none⟩ = some (.float .f64 hi)) ∧ (∀ d os, (Sort.grow (redrawn W d) os).cell? ⟨b, o + i, none⟩ = some (.float .f64 x)) :=
    ⟨_, Lib.hid rfl, fun d os => cell_regrown (by simp) d os, fun d os => cell_regrown (by simp) d os, fun d os => cell_regrown (by simp) d os, fun d os => cell_regrown (by simp) d os, fun d os => cell_regrown (by rw [World.cell?_alloc_lt _ _ _ hb]; exact hc) d os⟩
  have q5 : W.cell? ⟨w.heap.size, 5, none⟩ = some (.func (.func kto) #[] #[]) := by rw [← HW.out]; simp
  have qp : W.cell? ⟨pb, po + i, none⟩ = some old := by rw [← HW.out, World.cell?_alloc_lt _ _ _ hpb]; exact hp
  have qf : W.frozen? ⟨pb, po + i, none⟩ = false := by rw [← HW.out, World.frozen?_alloc_old _ _ _ (Nat.ne_of_lt hpb)]; exact hf
  have qb : Below w.heap.size w W := by rw [← HW.out]; exact (Below.refl _ _).alloc (Nat.le_refl _) _
  have qs : w.heap.size < W.heap.size := by rw [← HW.out]; simp
  rw [HW.out]
  refine wp_region_quiet_below (by kernel_rfl) (by kernel_rfl) ?_
  repeat (quiet_step (first | (with_reducible refine Calls.regrown_of_same (Hat.out _)) | (with_reducible refine Calls.regrown_of (within_any _ _ _ _ hfb hlo hhi))))
  refine wpQuiet_nil ?_
  rintro _ ⟨p, rfl⟩
  have hb2 := below_regrown W p.d p.os
  generalize Sort.grow (redrawn W p.d) p.os = W2 at hb2 ⊢
  have r5 : W2.cell? ⟨w.heap.size, 5, none⟩ = some (.func (.func kto) #[] #[]) := by rw [hb2.cell qs]; exact q5
  have rp : W2.cell? ⟨pb, po + i, none⟩ = some old := by rw [hb2.cell (Nat.lt_trans hpb qs)]; exact qp
  have rf : W2.frozen? ⟨pb, po + i, none⟩ = false := by rw [hb2.frozen (Nat.lt_trans hpb qs)]; exact qf
  clear q6 q1 q2 q3 qx q5 qp qf HW hp hf hc
  go_wp2_with (with_reducible refine (Hat2.out _).mono ?_; rintro e w' ⟨rfl, rfl⟩)
  go_ret
  exact ⟨rfl, below_set (qb.trans (hb2.mono (Nat.le_of_lt qs))) hpb _⟩

set_option maxHeartbeats 400000 in
theorem set_int (nm : ByteArray) (kat kto : Nat) (lo hi us : Int) (b o i : Nat) (old : Value) (w : World) (hc : w.cell? ⟨b, o + i, none⟩ = some old) (hf : w.frozen? ⟨b, o + i, none⟩ = false) (hb : b < w.heap.size)
    (hk : ∀ w, (callFunc kat #[.pointer (some ⟨b, o, none⟩)]).run Try.prog w = .ok (.enter kat #[.pointer (some ⟨b, o, none⟩)]) w)
    (hat : ∀ w, Calls Try.prog kat #[.pointer (some ⟨b, o, none⟩)] w fun e w' => e = .returned (.pointer (some ⟨b, o + i, none⟩)) ∧ w' = w) :
    Calls Try.prog 135 #[.agg #[.string nm, .func (.func kat) #[] #[], .int .i64 lo, .int .i64 hi, .int .i64 us, .func (.func kto) #[] #[], .func (.func 100) #[] #[]], .pointer (some ⟨b, o, none⟩)] w
      fun e w' => e = .returned (.tuple #[]) ∧ Below w.heap.size (w.setCell ⟨b, o + i, none⟩ (.int .i64 us)) w' := by
  have Hat := Lib.hid hat
  clear hat
  go_enter Try.func135, Try.ntmps135
  go_wp2
  refine wp_region_tail 7 (by kernel_rfl) (by kernel_rfl) ?_
  simp only [List.take_succ_cons, List.take_zero, List.drop_succ_cons, List.drop_zero]
  repeat still_step
  refine wpStill_step (fun K hK => ?_)
  go_simp
  refine ⟨_, Hat.out _, hK _ ?_⟩
  clear hK K
  repeat still_step
  refine wpStill_nil ?_
  go_wp2
  go_end0
  exact ⟨rfl, ((Below.refl _ _).alloc (Nat.le_of_eq (size_setCell _ _ _).symm) _).drew⟩

set_option maxHeartbeats 800000 in
theorem check_int (nm : ByteArray) (kat kto : Nat) (lo hi us x : Int) (b o i pb po : Nat) (old : Value) (w : World) (hc : w.cell? ⟨b, o + i, none⟩ = some (.int .i64 x)) (hb : b < w.heap.size)
    (hp : w.cell? ⟨pb, po + i, none⟩ = some old) (hf : w.frozen? ⟨pb, po + i, none⟩ = false) (hpb : pb < w.heap.size)
    (hk : ∀ w, (callFunc kat #[.pointer (some ⟨b, o, none⟩)]).run Try.prog w = .ok (.enter kat #[.pointer (some ⟨b, o, none⟩)]) w)
    (hat : ∀ w, Calls Try.prog kat #[.pointer (some ⟨b, o, none⟩)] w fun e w' => e = .returned (.pointer (some ⟨b, o + i, none⟩)) ∧ w' = w)
    (hk2 : ∀ w, (callFunc kto #[.pointer (some ⟨pb, po, none⟩)]).run Try.prog w = .ok (.enter kto #[.pointer (some ⟨pb, po, none⟩)]) w)
    (hat2 : ∀ w, Calls Try.prog kto #[.pointer (some ⟨pb, po, none⟩)] w fun e w' => e = .returned (.pointer (some ⟨pb, po + i, none⟩)) ∧ w' = w) :
    Calls Try.prog 134 #[.agg #[.string nm, .func (.func kat) #[] #[], .int .i64 lo, .int .i64 hi, .int .i64 us, .func (.func kto) #[] #[], .func (.func 100) #[] #[]], .pointer (some ⟨b, o, none⟩), .pointer (some ⟨pb, po, none⟩)] w
      fun e w' => e = .returned (.int .i64 (sWhole x lo hi).2) ∧ Below w.heap.size (w.setCell ⟨pb, po + i, none⟩ (.int .i64 (sWhole x lo hi).1)) w' := by
  have Hat := Lib.hid hat
  clear hat
  have Hat2 := Lib.hid hat2
  clear hat2
  go_enter Try.func134, Try.ntmps134
  go_wp2
  obtain ⟨W, HW, q6, q1, q2, q3, qx⟩ : ∃ W, Hid (w.alloc (.cells #[.string nm, .func (.func kat) #[] #[], .int .i64 lo, .int .i64 hi, .int .i64 us, .func (.func kto) #[] #[], .func (.func 100) #[] #[]] 148) = W) ∧
      (∀ d os, (Sort.grow (redrawn W d) os).cell? ⟨w.heap.size, 6, none⟩ = some (.func (.func 100) #[] #[])) ∧ (∀ d os, (Sort.grow (redrawn W d) os).cell? ⟨w.heap.size, 1, none⟩ = some (.func (.func kat) #[] #[])) ∧
      (∀ d os, (Sort.grow (redrawn W d) os).cell? ⟨w.heap.size, 2, none⟩ = some (.int .i64 lo)) ∧ (∀ d os, (Sort.grow (redrawn W d) os).cell? ⟨w.heap.size, 3, none⟩ = some (.int .i64 hi)) ∧ (∀ d os, (Sort.grow (redrawn W d) os).cell? ⟨b, o + i, none⟩ = some (.int .i64 x)) :=
    ⟨_, Lib.hid rfl, fun d os => cell_regrown (by simp) d os, fun d os => cell_regrown (by simp) d os, fun d os => cell_regrown (by simp) d os, fun d os => cell_regrown (by simp) d os, fun d os => cell_regrown (by rw [World.cell?_alloc_lt _ _ _ hb]; exact hc) d os⟩
  have q5 : W.cell? ⟨w.heap.size, 5, none⟩ = some (.func (.func kto) #[] #[]) := by rw [← HW.out]; simp
  have qp : W.cell? ⟨pb, po + i, none⟩ = some old := by rw [← HW.out, World.cell?_alloc_lt _ _ _ hpb]; exact hp
  have qf : W.frozen? ⟨pb, po + i, none⟩ = false := by rw [← HW.out, World.frozen?_alloc_old _ _ _ (Nat.ne_of_lt hpb)]; exact hf
  have qb : Below w.heap.size w W := by rw [← HW.out]; exact (Below.refl _ _).alloc (Nat.le_refl _) _
  have qs : w.heap.size < W.heap.size := by rw [← HW.out]; simp
  rw [HW.out]
  refine wp_region_quiet_below (by kernel_rfl) (by kernel_rfl) ?_
  repeat (quiet_step (first | (with_reducible refine Calls.regrown_of_same (Hat.out _)) | (with_reducible refine Calls.regrown_of ((whole_any _ _ _ _).mono fun _ _ h => ⟨h.1, h.2 ▸ Below.refl _ _⟩))))
  refine wpQuiet_nil ?_
  rintro _ ⟨p, rfl⟩
  have hb2 := below_regrown W p.d p.os
  generalize Sort.grow (redrawn W p.d) p.os = W2 at hb2 ⊢
  have r5 : W2.cell? ⟨w.heap.size, 5, none⟩ = some (.func (.func kto) #[] #[]) := by rw [hb2.cell qs]; exact q5
  have rp : W2.cell? ⟨pb, po + i, none⟩ = some old := by rw [hb2.cell (Nat.lt_trans hpb qs)]; exact qp
  have rf : W2.frozen? ⟨pb, po + i, none⟩ = false := by rw [hb2.frozen (Nat.lt_trans hpb qs)]; exact qf
  clear q6 q1 q2 q3 qx q5 qp qf HW hp hf hc
  go_wp2_with (with_reducible refine (Hat2.out _).mono ?_; rintro e w' ⟨rfl, rfl⟩)
  go_ret
  exact ⟨rfl, below_set (qb.trans (hb2.mono (Nat.le_of_lt qs))) hpb _⟩

set_option maxHeartbeats 400000 in
theorem mk_float (nm : ByteArray) (lo hi us : Nat) (fa fb : Nat) (w : World) :
    Calls Try.prog 66 #[.string nm, .float .f64 lo, .float .f64 hi, .float .f64 us, .func (.func fa) #[] #[], .func (.func fb) #[] #[]] w fun e w' => e = .returned (.iface 145 (.agg #[.string nm, .func (.func fa) #[] #[], .float .f64 lo, .float .f64 hi, .float .f64 us, .func (.func fb) #[] #[], .func (.func 99) #[] #[]])) ∧ w' = w := by
  go_enter Try.func66, Try.ntmps66
  go_wp2
  go_ret
  exact ⟨rfl, rfl⟩

set_option maxHeartbeats 400000 in
theorem mk_count (nm : ByteArray) (lo hi us : Int) (fa fb : Nat) (w : World) :
    Calls Try.prog 81 #[.string nm, .int .i64 lo, .int .i64 hi, .int .i64 us, .func (.func fa) #[] #[], .func (.func fb) #[] #[]] w fun e w' => e = .returned (.iface 148 (.agg #[.string nm, .func (.func fa) #[] #[], .int .i64 lo, .int .i64 hi, .int .i64 us, .func (.func fb) #[] #[], .func (.func 100) #[] #[]])) ∧ w' = w := by
  go_enter Try.func81, Try.ntmps81
  go_wp2
  go_ret
  exact ⟨rfl, rfl⟩

def fa1 : Value := .agg #[.string ⟨#[115, 116, 101, 112]⟩, .func (.func 67) #[] #[], .float .f64 4562254508917369340, .float .f64 4621819117588971520, .float .f64 4593671619917905920, .func (.func 68) #[] #[], .func (.func 99) #[] #[]]
def fa2 : Value := .agg #[.string ⟨#[119, 97, 116, 99, 104]⟩, .func (.func 69) #[] #[], .float .f64 4607182418800017408, .float .f64 4660134898793709568, .float .f64 4643985272004935680, .func (.func 70) #[] #[], .func (.func 99) #[] #[]]
def fa3 : Value := .agg #[.string ⟨#[112, 97, 110, 105, 99]⟩, .func (.func 71) #[] #[], .float .f64 4607182418800017408, .float .f64 4681608360884174848, .float .f64 4652007308841189376, .func (.func 72) #[] #[], .func (.func 99) #[] #[]]
def fa4 : Value := .agg #[.string ⟨#[109, 97, 120, 114, 97, 116, 101]⟩, .func (.func 73) #[] #[], .float .f64 4517329193108106637, .float .f64 4591870180066957722, .float .f64 4557750909289998844, .func (.func 74) #[] #[], .func (.func 99) #[] #[]]
def fa5 : Value := .agg #[.string ⟨#[112, 104, 105]⟩, .func (.func 75) #[] #[], .float .f64 0, .float .f64 4576918229304087675, .float .f64 4534972062662729065, .func (.func 76) #[] #[], .func (.func 99) #[] #[]]
def fa6 : Value := .agg #[.string ⟨#[109, 97, 120, 100, 105, 115, 116]⟩, .func (.func 77) #[] #[], .float .f64 4576918229304087675, .float .f64 4625196817309499392, .float .f64 4609434218613702656, .func (.func 78) #[] #[], .func (.func 99) #[] #[]]
def fa7 : Value := .agg #[.string ⟨#[103, 97, 116, 101]⟩, .func (.func 79) #[] #[], .float .f64 4607182418800017408, .float .f64 4636737291354636288, .float .f64 4616189618054758400, .func (.func 80) #[] #[], .func (.func 99) #[] #[]]
def fa8 : Value := .agg #[.string ⟨#[109, 105, 110, 112, 111, 108, 108]⟩, .func (.func 82) #[] #[], .int .i64 4, .int .i64 17, .int .i64 6, .func (.func 83) #[] #[], .func (.func 100) #[] #[]]
def fa9 : Value := .agg #[.string ⟨#[109, 97, 120, 112, 111, 108, 108]⟩, .func (.func 84) #[] #[], .int .i64 4, .int .i64 17, .int .i64 10, .func (.func 85) #[] #[], .func (.func 100) #[] #[]]
def fa10 : Value := .agg #[.string ⟨#[98, 117, 114, 115, 116]⟩, .func (.func 86) #[] #[], .int .i64 0, .int .i64 8, .int .i64 0, .func (.func 87) #[] #[], .func (.func 100) #[] #[]]
def fa11 : Value := .agg #[.string ⟨#[109, 105, 110, 115, 97, 110, 101]⟩, .func (.func 88) #[] #[], .int .i64 1, .int .i64 10, .int .i64 1, .func (.func 89) #[] #[], .func (.func 100) #[] #[]]
def fa12 : Value := .agg #[.string ⟨#[109, 105, 110, 108, 101, 102, 116]⟩, .func (.func 90) #[] #[], .int .i64 1, .int .i64 10, .int .i64 3, .func (.func 91) #[] #[], .func (.func 100) #[] #[]]
def fvs : Array Value := #[.iface 145 fa1, .iface 145 fa2, .iface 145 fa3, .iface 145 fa4, .iface 145 fa5, .iface 145 fa6, .iface 145 fa7, .iface 148 fa8, .iface 148 fa9, .iface 148 fa10, .iface 148 fa11, .iface 148 fa12]

set_option maxHeartbeats 800000 in
theorem fields_any (w : World) : Calls Try.prog 51 #[] w fun e w' => e = .returned (.slice (some ⟨w.heap.size, 0, none⟩) 12 12) ∧ w' = w.alloc (.cells fvs 108) := by
  go_enter Try.func51, Try.ntmps51
  go_wp2_with (first | (with_reducible refine (mk_float _ _ _ _ _ _ _).mono ?_; rintro e w' ⟨rfl, rfl⟩) | (with_reducible refine (mk_count _ _ _ _ _ _ _).mono ?_; rintro e w' ⟨rfl, rfl⟩))
  go_ret
  exact ⟨rfl, rfl⟩
end Go.Proofs.Ythhipnhnpjhaaaa
