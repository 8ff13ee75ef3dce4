/- From each state it goes to those that the document's table has: the law LoopStates holds of every input; no condition. -/
import Derived.Test.YthhipnhnpjhaaaaRows
import Derived.Test.YthhipnhnpjhaaaaT19s
import Derived.Test.YthhipnhnpjhaaaaOpen
import Derived.WalkKit
import Derived.ProofKit
import Derived.OpenShut
import Derived.ShutString
import Derived.ChangeOld
import Derived.Below
import Derived.SizedLaws
import Derived.Carry
namespace Go.Proofs.Ythhipnhnpjhaaaa.loopStates
open Go.ChangeShapes Go.WideShapes Go.ChangeAt Go.RowKit
open Go.ChangeMaps (open_string shut_string)
set_option linter.unusedVariables false
theorem own : ownKnob Try.prog.godebug = none := by kernel_rfl
theorem laidOut : laidOutB Try.prog = true := by kernel_rfl

set_option maxRecDepth 100000 in
theorem lifted (os : Os) (started : os.Started) (H : Type) (enc : TypeId × Value → H) :
    ReturnsInHanded {} Try.checked os 11 .any (Rows.loopStatesSpec.pre6 enc Try.prog Try.f11 Rows.loopStatesRow.domain false) (Rows.loopStatesSpec.post enc Try.prog Try.f11 false true false false) := by
  refine returnsInHanded_of_change_sized (C := Try.checked) own started (by kernel_rfl) Try.func11
    (ChangeSpec.witness6 (enc := enc) (C := Try.checked) false ⟨#[], #[.agg #[.int .i64 0, .int .i64 0, .int .i64 0, .int .i64 0, .int .i64 0, .int .i64 0, .int .i64 0], .int .i64 0, .int .u16 0, .int .u8 0], []⟩ 8 (by kernel_rfl) (by kernel_rfl) (by kernel_rfl) (by kernel_rfl)) ?_
  intro W base args ds gs before hval0 hW hcnd hsz0 _
  have hsz : (DataW.weightsEach Try.prog (Try.f11.params.toList ++ Rows.loopStatesSpec.plain.varTypes Try.prog) (ds ++ gs)).all (· ≤ reachBytes) = true := hsz0
  have hval : ∀ (j : Nat) t v, Try.f11.params[j]? = some t → args[j]? = some v → Value.okWide Try.prog W .any base t v := hval0
  have hW' := hW
  obtain ⟨p, q, hA0, hV, rfl, hfz, hnd⟩ := hW
  have hA : DataW.TrodAll enc Try.prog W 0 (fun _ => true) true Try.f11.params.toList args.toList ds p := hA0
  rw [Try.params11] at hA hval hsz
  obtain ⟨v0, vs0, d0, ds0, p0, q0, hargs, rfl, rfl, h0, r0⟩ := trodAll_cons hA
  obtain ⟨v1, vs1, d1, ds1, p1, q1, rfl, rfl, rfl, h1, r1⟩ := trodAll_cons r0
  obtain ⟨v2, vs2, d2, ds2, p2, q2, rfl, rfl, rfl, h2, r2⟩ := trodAll_cons r1
  obtain ⟨v3, vs3, d3, ds3, p3, q3, rfl, rfl, rfl, h3, r3⟩ := trodAll_cons r2
  obtain ⟨rfl, rfl, rfl⟩ := trodAll_nil r3
  obtain rfl : args = #[v0, v1, v2, v3] := by cases args; simp_all
  obtain ⟨rfl, rfl⟩ := trodVars_none hV
  have k0 := h0
  have lt0 : ∀ x ∈ p0, x.block < W.heap.size := by obtain ⟨m, hm⟩ := k0; exact DataW.trod_lt m _ _ _ hm
  obtain ⟨l0, rfl, ls0, lc0⟩ := okw_struct Try.underlying50 (ts := [3, 2, 2, 2, 2, 2, 2]) (by kernel_rfl) (hval 0 50 v0 rfl rfl)
  have ls0 : l0.length = 7 := ls0.trans (by kernel_rfl)
  obtain ⟨x0_0, l0_0, rfl, e0_0⟩ := list_cons ls0
  obtain ⟨x0_1, l0_1, rfl, e0_1⟩ := list_cons e0_0
  obtain ⟨x0_2, l0_2, rfl, e0_2⟩ := list_cons e0_1
  obtain ⟨x0_3, l0_3, rfl, e0_3⟩ := list_cons e0_2
  obtain ⟨x0_4, l0_4, rfl, e0_4⟩ := list_cons e0_3
  obtain ⟨x0_5, l0_5, rfl, e0_5⟩ := list_cons e0_4
  obtain ⟨x0_6, l0_6, rfl, e0_6⟩ := list_cons e0_5
  obtain rfl := list_nil e0_6
  obtain ⟨u0_0, g0_0, o0_0⟩ := lc0 0 x0_0 rfl
  obtain rfl : u0_0 = 3 := (Option.some.inj g0_0).symm
  obtain ⟨a0_0, rfl, b0_0⟩ := okc_int Try.underlying3 o0_0
  have b0_0 : (-9223372036854775808 : Int) ≤ a0_0 ∧ a0_0 ≤ 9223372036854775807 := b0_0
  obtain ⟨u0_1, g0_1, o0_1⟩ := lc0 1 x0_1 rfl
  obtain rfl : u0_1 = 2 := (Option.some.inj g0_1).symm
  obtain ⟨a0_1, rfl, b0_1⟩ := okc_int Try.underlying2 o0_1
  have b0_1 : (-9223372036854775808 : Int) ≤ a0_1 ∧ a0_1 ≤ 9223372036854775807 := b0_1
  obtain ⟨u0_2, g0_2, o0_2⟩ := lc0 2 x0_2 rfl
  obtain rfl : u0_2 = 2 := (Option.some.inj g0_2).symm
  obtain ⟨a0_2, rfl, b0_2⟩ := okc_int Try.underlying2 o0_2
  have b0_2 : (-9223372036854775808 : Int) ≤ a0_2 ∧ a0_2 ≤ 9223372036854775807 := b0_2
  obtain ⟨u0_3, g0_3, o0_3⟩ := lc0 3 x0_3 rfl
  obtain rfl : u0_3 = 2 := (Option.some.inj g0_3).symm
  obtain ⟨a0_3, rfl, b0_3⟩ := okc_int Try.underlying2 o0_3
  have b0_3 : (-9223372036854775808 : Int) ≤ a0_3 ∧ a0_3 ≤ 9223372036854775807 := b0_3
  obtain ⟨u0_4, g0_4, o0_4⟩ := lc0 4 x0_4 rfl
  obtain rfl : u0_4 = 2 := (Option.some.inj g0_4).symm
  obtain ⟨a0_4, rfl, b0_4⟩ := okc_int Try.underlying2 o0_4
  have b0_4 : (-9223372036854775808 : Int) ≤ a0_4 ∧ a0_4 ≤ 9223372036854775807 := b0_4
  obtain ⟨u0_5, g0_5, o0_5⟩ := lc0 5 x0_5 rfl
  obtain rfl : u0_5 = 2 := (Option.some.inj g0_5).symm
  obtain ⟨a0_5, rfl, b0_5⟩ := okc_int Try.underlying2 o0_5
  have b0_5 : (-9223372036854775808 : Int) ≤ a0_5 ∧ a0_5 ≤ 9223372036854775807 := b0_5
  obtain ⟨u0_6, g0_6, o0_6⟩ := lc0 6 x0_6 rfl
  obtain rfl : u0_6 = 2 := (Option.some.inj g0_6).symm
  obtain ⟨a0_6, rfl, b0_6⟩ := okc_int Try.underlying2 o0_6
  have b0_6 : (-9223372036854775808 : Int) ≤ a0_6 ∧ a0_6 ≤ 9223372036854775807 := b0_6
  have k1 := h1
  have lt1 : ∀ x ∈ p1, x.block < W.heap.size := by obtain ⟨m, hm⟩ := k1; exact DataW.trod_lt m _ _ _ hm
  obtain ⟨a1, rfl, _, _, b1⟩ := open_int Try.underlying2 (hval 1 2 v1 rfl rfl) h1
  have b1 : (-9223372036854775808 : Int) ≤ a1 ∧ a1 ≤ 9223372036854775807 := by simpa [Lit.wf, IntKind.min, IntKind.max, IntKind.signed, IntKind.bits] using b1
  have k2 := h2
  have lt2 : ∀ x ∈ p2, x.block < W.heap.size := by obtain ⟨m, hm⟩ := k2; exact DataW.trod_lt m _ _ _ hm
  obtain ⟨a2, rfl, _, _, b2⟩ := open_int Try.underlying30 (hval 2 30 v2 rfl rfl) h2
  have b2 : (0 : Int) ≤ a2 ∧ a2 ≤ 65535 := by simpa [Lit.wf, IntKind.min, IntKind.max, IntKind.signed, IntKind.bits] using b2
  have k3 := h3
  have lt3 : ∀ x ∈ p3, x.block < W.heap.size := by obtain ⟨m, hm⟩ := k3; exact DataW.trod_lt m _ _ _ hm
  obtain ⟨a3, rfl, _, _, b3⟩ := open_int Try.underlying5 (hval 3 5 v3 rfl rfl) h3
  have b3 : (0 : Int) ≤ a3 ∧ a3 ≤ 255 := by simpa [Lit.wf, IntKind.min, IntKind.max, IntKind.signed, IntKind.bits] using b3
  clear hA0 hval0 hsz0 hsz
  refine (loopStates_walk a0_0 a0_1 a0_2 a0_3 a0_4 a0_5 a0_6 a1 a2 a3 b0_0 b0_1 b0_2 b0_3 b0_4 b0_5 b0_6 b1 b2 b3 W).mono fun e W' ⟨he, bel⟩ => ?_
  subst he
  exact ⟨_, rfl, _, _, _, [], _, [], hW', trodAll_mk1 (shut_bool Try.underlying4 _), (trodAll_cons_mk (Below.trod laidOut (by kernel_rfl) (of_decide_eq_true (by kernel_rfl)) k0 bel lt0) (trodAll_cons_mk (Below.trod laidOut (by kernel_rfl) (of_decide_eq_true (by kernel_rfl)) k1 bel lt1) (trodAll_cons_mk (Below.trod laidOut (by kernel_rfl) (of_decide_eq_true (by kernel_rfl)) k2 bel lt2) (trodAll_cons_mk (Below.trod laidOut (by kernel_rfl) (of_decide_eq_true (by kernel_rfl)) k3 bel lt3) trodAll_mk0)))), rfl, bel.frame _, fun h => by cases h⟩
theorem over : Rows.loopStatesRow.holds Try.pinned (OpenSpec.ofChange Rows.loopStatesSpec) :=
  OpenClaim.holds_of_wide 11 Try.f11 rfl rfl rfl rfl rfl rfl rfl ⟨rfl, rfl, rfl, rfl, rfl⟩ rfl rfl rfl rfl rfl (by kernel_rfl) Try.func11 (by kernel_rfl)
    (of_decide_eq_true (by kernel_rfl)) (by unfold Func.isWrapper; first | (rw [if_pos (by decide +kernel)]; kernel_rfl) | (rw [if_neg (by decide +kernel)]; exact ⟨rfl, rfl⟩))
    (fun os started H enc _ => lifted os started H enc)
theorem proved : Rows.LoopStatesSaid := over
#print axioms proved
end Go.Proofs.Ythhipnhnpjhaaaa.loopStates
namespace Go.Proofs.Ythhipnhnpjhaaaa
/-- The row, under a short name, for the claim. -/
theorem loopStates_holds : Rows.LoopStatesSaid := loopStates.proved
end Go.Proofs.Ythhipnhnpjhaaaa
