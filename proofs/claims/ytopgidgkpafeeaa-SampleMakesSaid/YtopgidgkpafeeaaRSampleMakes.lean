/- What any four times tell, whatever is set, is the document's sample, or its error: the law SampleMakes holds of every input; no condition. -/
import Derived.Test.YtopgidgkpafeeaaRows
import Derived.Test.YtopgidgkpafeeaaT13e
import Derived.Test.YtopgidgkpafeeaaOpen
import Derived.WalkKit
import Derived.ProofKit
import Derived.OpenShut
import Derived.ShutString
import Derived.ChangeOld
import Derived.Below
import Derived.SizedLaws
import Derived.Carry
namespace Go.Proofs.Ytopgidgkpafeeaa.sampleMakes
open Go.ChangeShapes Go.WideShapes Go.ChangeAt Go.RowKit
open Go.ChangeMaps (open_string shut_string)
set_option linter.unusedVariables false
theorem own : ownKnob Try.prog.godebug = none := by kernel_rfl
theorem laidOut : laidOutB Try.prog = true := by kernel_rfl

set_option maxRecDepth 100000 in
theorem lifted (os : Os) (started : os.Started) (H : Type) (enc : TypeId × Value → H) :
    ReturnsInHanded {} Try.checked os 3 .any (Rows.sampleMakesSpec.pre6 enc Try.prog Try.f3 Rows.sampleMakesRow.domain false) (Rows.sampleMakesSpec.post enc Try.prog Try.f3 false true false false) := by
  refine returnsInHanded_of_change_sized (C := Try.checked) own started (by kernel_rfl) Try.func3
    (ChangeSpec.witness6 (enc := enc) (C := Try.checked) false ⟨#[], #[.agg #[.int .i64 0, .int .i64 0, .int .i64 0, .int .i64 0, .int .i64 0, .int .i64 0, .int .i64 0, .int .i64 0, .int .i64 0, .int .i64 0, .int .i64 0, .int .i64 0], .int .i64 0, .agg #[.int .i64 0, .int .i64 0, .int .i64 0, .int .i64 0, .int .i64 0, .int .i64 0, .int .u32 0, .int .u32 0, .int .u32 0, .int .u64 0, .int .u64 0, .int .u64 0, .int .u64 0], .int .u64 0, .int .i64 0, .int .i64 0], []⟩ 8 (by kernel_rfl) (by kernel_rfl) (by kernel_rfl) (by kernel_rfl)) ?_
  intro W base args ds gs before hval0 hW hcnd hsz0 _
  have hsz : (DataW.weightsEach Try.prog (Try.f3.params.toList ++ Rows.sampleMakesSpec.plain.varTypes Try.prog) (ds ++ gs)).all (· ≤ reachBytes) = true := hsz0
  have hval : ∀ (j : Nat) t v, Try.f3.params[j]? = some t → args[j]? = some v → Value.okWide Try.prog W .any base t v := hval0
  have hW' := hW
  obtain ⟨p, q, hA0, hV, rfl, hfz, hnd⟩ := hW
  have hA : DataW.TrodAll enc Try.prog W 0 (fun _ => true) true Try.f3.params.toList args.toList ds p := hA0
  rw [Try.params3] at hA hval hsz
  obtain ⟨v0, vs0, d0, ds0, p0, q0, hargs, rfl, rfl, h0, r0⟩ := trodAll_cons hA
  obtain ⟨v1, vs1, d1, ds1, p1, q1, rfl, rfl, rfl, h1, r1⟩ := trodAll_cons r0
  obtain ⟨v2, vs2, d2, ds2, p2, q2, rfl, rfl, rfl, h2, r2⟩ := trodAll_cons r1
  obtain ⟨v3, vs3, d3, ds3, p3, q3, rfl, rfl, rfl, h3, r3⟩ := trodAll_cons r2
  obtain ⟨v4, vs4, d4, ds4, p4, q4, rfl, rfl, rfl, h4, r4⟩ := trodAll_cons r3
  obtain ⟨v5, vs5, d5, ds5, p5, q5, rfl, rfl, rfl, h5, r5⟩ := trodAll_cons r4
  obtain ⟨rfl, rfl, rfl⟩ := trodAll_nil r5
  obtain rfl : args = #[v0, v1, v2, v3, v4, v5] := by cases args; simp_all
  obtain ⟨rfl, rfl⟩ := trodVars_none hV
  have k0 := h0
  have lt0 : ∀ x ∈ p0, x.block < W.heap.size := by obtain ⟨m, hm⟩ := k0; exact DataW.trod_lt m _ _ _ hm
  obtain ⟨l0, rfl, ls0, lc0⟩ := okw_struct Try.underlying23 (ts := [2, 2, 2, 2, 2, 2, 2, 3, 3, 3, 3, 3]) (by kernel_rfl) (hval 0 23 v0 rfl rfl)
  have ls0 : l0.length = 12 := ls0.trans (by kernel_rfl)
  obtain ⟨x0_0, l0_0, rfl, e0_0⟩ := list_cons ls0
  obtain ⟨x0_1, l0_1, rfl, e0_1⟩ := list_cons e0_0
  obtain ⟨x0_2, l0_2, rfl, e0_2⟩ := list_cons e0_1
  obtain ⟨x0_3, l0_3, rfl, e0_3⟩ := list_cons e0_2
  obtain ⟨x0_4, l0_4, rfl, e0_4⟩ := list_cons e0_3
  obtain ⟨x0_5, l0_5, rfl, e0_5⟩ := list_cons e0_4
  obtain ⟨x0_6, l0_6, rfl, e0_6⟩ := list_cons e0_5
  obtain ⟨x0_7, l0_7, rfl, e0_7⟩ := list_cons e0_6
  obtain ⟨x0_8, l0_8, rfl, e0_8⟩ := list_cons e0_7
  obtain ⟨x0_9, l0_9, rfl, e0_9⟩ := list_cons e0_8
  obtain ⟨x0_10, l0_10, rfl, e0_10⟩ := list_cons e0_9
  obtain ⟨x0_11, l0_11, rfl, e0_11⟩ := list_cons e0_10
  obtain rfl := list_nil e0_11
  obtain ⟨u0_0, g0_0, o0_0⟩ := lc0 0 x0_0 rfl
  obtain rfl : u0_0 = 2 := (Option.some.inj g0_0).symm
  obtain ⟨a0_0, rfl, b0_0⟩ := okc_int Try.underlying2 o0_0
  have b0_0 : (-9223372036854775808 : Int) ≤ a0_0 ∧ a0_0 ≤ 9223372036854775807 := b0_0
  obtain ⟨u0_1, g0_1, o0_1⟩ := lc0 1 x0_1 rfl
  obtain rfl : u0_1 = 2 := (Option.some.inj g0_1).symm
  obtain ⟨a0_1, rfl, b0_1⟩ := okc_int Try.underlying2 o0_1
  have b0_1 : (-9223372036854775808 : Int) ≤ a0_1 ∧ a0_1 ≤ 9223372036854775807 := b0_1
  obtain ⟨u0_2, g0_2, o0_2⟩ := lc0 2 x0_2 rfl
  obtain rfl : u0_2 = 2 := (Option.some.inj g0_2).symm
  obtain ⟨a0_2, rfl, b0_2⟩ := okc_int Try.underlying2 o0_2
  have b0_2 : (-9223372036854775808 : Int) ≤ a0_2 ∧ a0_2 ≤ 9223372036854775807 := b0_2
  obtain ⟨u0_3, g0_3, o0_3⟩ := lc0 3 x0_3 rfl
  obtain rfl : u0_3 = 2 := (Option.some.inj g0_3).symm
  obtain ⟨a0_3, rfl, b0_3⟩ := okc_int Try.underlying2 o0_3
  have b0_3 : (-9223372036854775808 : Int) ≤ a0_3 ∧ a0_3 ≤ 9223372036854775807 := b0_3
  obtain ⟨u0_4, g0_4, o0_4⟩ := lc0 4 x0_4 rfl
  obtain rfl : u0_4 = 2 := (Option.some.inj g0_4).symm
  obtain ⟨a0_4, rfl, b0_4⟩ := okc_int Try.underlying2 o0_4
  have b0_4 : (-9223372036854775808 : Int) ≤ a0_4 ∧ a0_4 ≤ 9223372036854775807 := b0_4
  obtain ⟨u0_5, g0_5, o0_5⟩ := lc0 5 x0_5 rfl
  obtain rfl : u0_5 = 2 := (Option.some.inj g0_5).symm
  obtain ⟨a0_5, rfl, b0_5⟩ := okc_int Try.underlying2 o0_5
  have b0_5 : (-9223372036854775808 : Int) ≤ a0_5 ∧ a0_5 ≤ 9223372036854775807 := b0_5
  obtain ⟨u0_6, g0_6, o0_6⟩ := lc0 6 x0_6 rfl
  obtain rfl : u0_6 = 2 := (Option.some.inj g0_6).symm
  obtain ⟨a0_6, rfl, b0_6⟩ := okc_int Try.underlying2 o0_6
  have b0_6 : (-9223372036854775808 : Int) ≤ a0_6 ∧ a0_6 ≤ 9223372036854775807 := b0_6
  obtain ⟨u0_7, g0_7, o0_7⟩ := lc0 7 x0_7 rfl
  obtain rfl : u0_7 = 3 := (Option.some.inj g0_7).symm
  obtain ⟨a0_7, rfl, b0_7⟩ := okc_int Try.underlying3 o0_7
  have b0_7 : (-9223372036854775808 : Int) ≤ a0_7 ∧ a0_7 ≤ 9223372036854775807 := b0_7
  obtain ⟨u0_8, g0_8, o0_8⟩ := lc0 8 x0_8 rfl
  obtain rfl : u0_8 = 3 := (Option.some.inj g0_8).symm
  obtain ⟨a0_8, rfl, b0_8⟩ := okc_int Try.underlying3 o0_8
  have b0_8 : (-9223372036854775808 : Int) ≤ a0_8 ∧ a0_8 ≤ 9223372036854775807 := b0_8
  obtain ⟨u0_9, g0_9, o0_9⟩ := lc0 9 x0_9 rfl
  obtain rfl : u0_9 = 3 := (Option.some.inj g0_9).symm
  obtain ⟨a0_9, rfl, b0_9⟩ := okc_int Try.underlying3 o0_9
  have b0_9 : (-9223372036854775808 : Int) ≤ a0_9 ∧ a0_9 ≤ 9223372036854775807 := b0_9
  obtain ⟨u0_10, g0_10, o0_10⟩ := lc0 10 x0_10 rfl
  obtain rfl : u0_10 = 3 := (Option.some.inj g0_10).symm
  obtain ⟨a0_10, rfl, b0_10⟩ := okc_int Try.underlying3 o0_10
  have b0_10 : (-9223372036854775808 : Int) ≤ a0_10 ∧ a0_10 ≤ 9223372036854775807 := b0_10
  obtain ⟨u0_11, g0_11, o0_11⟩ := lc0 11 x0_11 rfl
  obtain rfl : u0_11 = 3 := (Option.some.inj g0_11).symm
  obtain ⟨a0_11, rfl, b0_11⟩ := okc_int Try.underlying3 o0_11
  have b0_11 : (-9223372036854775808 : Int) ≤ a0_11 ∧ a0_11 ≤ 9223372036854775807 := b0_11
  have k1 := h1
  have lt1 : ∀ x ∈ p1, x.block < W.heap.size := by obtain ⟨m, hm⟩ := k1; exact DataW.trod_lt m _ _ _ hm
  obtain ⟨a1, rfl, _, _, b1⟩ := open_int Try.underlying3 (hval 1 3 v1 rfl rfl) h1
  have b1 : (-9223372036854775808 : Int) ≤ a1 ∧ a1 ≤ 9223372036854775807 := by simpa [Lit.wf, IntKind.min, IntKind.max, IntKind.signed, IntKind.bits] using b1
  have k2 := h2
  have lt2 : ∀ x ∈ p2, x.block < W.heap.size := by obtain ⟨m, hm⟩ := k2; exact DataW.trod_lt m _ _ _ hm
  obtain ⟨l2, rfl, ls2, lc2⟩ := okw_struct Try.underlying27 (ts := [3, 3, 3, 3, 3, 3, 24, 24, 24, 25, 25, 25, 25]) (by kernel_rfl) (hval 2 27 v2 rfl rfl)
  have ls2 : l2.length = 13 := ls2.trans (by kernel_rfl)
  obtain ⟨x2_0, l2_0, rfl, e2_0⟩ := list_cons ls2
  obtain ⟨x2_1, l2_1, rfl, e2_1⟩ := list_cons e2_0
  obtain ⟨x2_2, l2_2, rfl, e2_2⟩ := list_cons e2_1
  obtain ⟨x2_3, l2_3, rfl, e2_3⟩ := list_cons e2_2
  obtain ⟨x2_4, l2_4, rfl, e2_4⟩ := list_cons e2_3
  obtain ⟨x2_5, l2_5, rfl, e2_5⟩ := list_cons e2_4
  obtain ⟨x2_6, l2_6, rfl, e2_6⟩ := list_cons e2_5
  obtain ⟨x2_7, l2_7, rfl, e2_7⟩ := list_cons e2_6
  obtain ⟨x2_8, l2_8, rfl, e2_8⟩ := list_cons e2_7
  obtain ⟨x2_9, l2_9, rfl, e2_9⟩ := list_cons e2_8
  obtain ⟨x2_10, l2_10, rfl, e2_10⟩ := list_cons e2_9
  obtain ⟨x2_11, l2_11, rfl, e2_11⟩ := list_cons e2_10
  obtain ⟨x2_12, l2_12, rfl, e2_12⟩ := list_cons e2_11
  obtain rfl := list_nil e2_12
  obtain ⟨u2_0, g2_0, o2_0⟩ := lc2 0 x2_0 rfl
  obtain rfl : u2_0 = 3 := (Option.some.inj g2_0).symm
  obtain ⟨a2_0, rfl, b2_0⟩ := okc_int Try.underlying3 o2_0
  have b2_0 : (-9223372036854775808 : Int) ≤ a2_0 ∧ a2_0 ≤ 9223372036854775807 := b2_0
  obtain ⟨u2_1, g2_1, o2_1⟩ := lc2 1 x2_1 rfl
  obtain rfl : u2_1 = 3 := (Option.some.inj g2_1).symm
  obtain ⟨a2_1, rfl, b2_1⟩ := okc_int Try.underlying3 o2_1
  have b2_1 : (-9223372036854775808 : Int) ≤ a2_1 ∧ a2_1 ≤ 9223372036854775807 := b2_1
  obtain ⟨u2_2, g2_2, o2_2⟩ := lc2 2 x2_2 rfl
  obtain rfl : u2_2 = 3 := (Option.some.inj g2_2).symm
  obtain ⟨a2_2, rfl, b2_2⟩ := okc_int Try.underlying3 o2_2
  have b2_2 : (-9223372036854775808 : Int) ≤ a2_2 ∧ a2_2 ≤ 9223372036854775807 := b2_2
  obtain ⟨u2_3, g2_3, o2_3⟩ := lc2 3 x2_3 rfl
  obtain rfl : u2_3 = 3 := (Option.some.inj g2_3).symm
  obtain ⟨a2_3, rfl, b2_3⟩ := okc_int Try.underlying3 o2_3
  have b2_3 : (-9223372036854775808 : Int) ≤ a2_3 ∧ a2_3 ≤ 9223372036854775807 := b2_3
  obtain ⟨u2_4, g2_4, o2_4⟩ := lc2 4 x2_4 rfl
  obtain rfl : u2_4 = 3 := (Option.some.inj g2_4).symm
  obtain ⟨a2_4, rfl, b2_4⟩ := okc_int Try.underlying3 o2_4
  have b2_4 : (-9223372036854775808 : Int) ≤ a2_4 ∧ a2_4 ≤ 9223372036854775807 := b2_4
  obtain ⟨u2_5, g2_5, o2_5⟩ := lc2 5 x2_5 rfl
  obtain rfl : u2_5 = 3 := (Option.some.inj g2_5).symm
  obtain ⟨a2_5, rfl, b2_5⟩ := okc_int Try.underlying3 o2_5
  have b2_5 : (-9223372036854775808 : Int) ≤ a2_5 ∧ a2_5 ≤ 9223372036854775807 := b2_5
  obtain ⟨u2_6, g2_6, o2_6⟩ := lc2 6 x2_6 rfl
  obtain rfl : u2_6 = 24 := (Option.some.inj g2_6).symm
  obtain ⟨a2_6, rfl, b2_6⟩ := okc_int Try.underlying24 o2_6
  have b2_6 : (0 : Int) ≤ a2_6 ∧ a2_6 ≤ 4294967295 := b2_6
  obtain ⟨u2_7, g2_7, o2_7⟩ := lc2 7 x2_7 rfl
  obtain rfl : u2_7 = 24 := (Option.some.inj g2_7).symm
  obtain ⟨a2_7, rfl, b2_7⟩ := okc_int Try.underlying24 o2_7
  have b2_7 : (0 : Int) ≤ a2_7 ∧ a2_7 ≤ 4294967295 := b2_7
  obtain ⟨u2_8, g2_8, o2_8⟩ := lc2 8 x2_8 rfl
  obtain rfl : u2_8 = 24 := (Option.some.inj g2_8).symm
  obtain ⟨a2_8, rfl, b2_8⟩ := okc_int Try.underlying24 o2_8
  have b2_8 : (0 : Int) ≤ a2_8 ∧ a2_8 ≤ 4294967295 := b2_8
  obtain ⟨u2_9, g2_9, o2_9⟩ := lc2 9 x2_9 rfl
  obtain rfl : u2_9 = 25 := (Option.some.inj g2_9).symm
  obtain ⟨a2_9, rfl, b2_9⟩ := okc_int Try.underlying25 o2_9
  have b2_9 : (0 : Int) ≤ a2_9 ∧ a2_9 ≤ 18446744073709551615 := b2_9
  obtain ⟨u2_10, g2_10, o2_10⟩ := lc2 10 x2_10 rfl
  obtain rfl : u2_10 = 25 := (Option.some.inj g2_10).symm
  obtain ⟨a2_10, rfl, b2_10⟩ := okc_int Try.underlying25 o2_10
  have b2_10 : (0 : Int) ≤ a2_10 ∧ a2_10 ≤ 18446744073709551615 := b2_10
  obtain ⟨u2_11, g2_11, o2_11⟩ := lc2 11 x2_11 rfl
  obtain rfl : u2_11 = 25 := (Option.some.inj g2_11).symm
  obtain ⟨a2_11, rfl, b2_11⟩ := okc_int Try.underlying25 o2_11
  have b2_11 : (0 : Int) ≤ a2_11 ∧ a2_11 ≤ 18446744073709551615 := b2_11
  obtain ⟨u2_12, g2_12, o2_12⟩ := lc2 12 x2_12 rfl
  obtain rfl : u2_12 = 25 := (Option.some.inj g2_12).symm
  obtain ⟨a2_12, rfl, b2_12⟩ := okc_int Try.underlying25 o2_12
  have b2_12 : (0 : Int) ≤ a2_12 ∧ a2_12 ≤ 18446744073709551615 := b2_12
  have k3 := h3
  have lt3 : ∀ x ∈ p3, x.block < W.heap.size := by obtain ⟨m, hm⟩ := k3; exact DataW.trod_lt m _ _ _ hm
  obtain ⟨a3, rfl, _, _, b3⟩ := open_int Try.underlying25 (hval 3 25 v3 rfl rfl) h3
  have b3 : (0 : Int) ≤ a3 ∧ a3 ≤ 18446744073709551615 := by simpa [Lit.wf, IntKind.min, IntKind.max, IntKind.signed, IntKind.bits] using b3
  have k4 := h4
  have lt4 : ∀ x ∈ p4, x.block < W.heap.size := by obtain ⟨m, hm⟩ := k4; exact DataW.trod_lt m _ _ _ hm
  obtain ⟨a4, rfl, _, _, b4⟩ := open_int Try.underlying2 (hval 4 2 v4 rfl rfl) h4
  have b4 : (-9223372036854775808 : Int) ≤ a4 ∧ a4 ≤ 9223372036854775807 := by simpa [Lit.wf, IntKind.min, IntKind.max, IntKind.signed, IntKind.bits] using b4
  have k5 := h5
  have lt5 : ∀ x ∈ p5, x.block < W.heap.size := by obtain ⟨m, hm⟩ := k5; exact DataW.trod_lt m _ _ _ hm
  obtain ⟨a5, rfl, _, _, b5⟩ := open_int Try.underlying2 (hval 5 2 v5 rfl rfl) h5
  have b5 : (-9223372036854775808 : Int) ≤ a5 ∧ a5 ≤ 9223372036854775807 := by simpa [Lit.wf, IntKind.min, IntKind.max, IntKind.signed, IntKind.bits] using b5
  clear hA0 hval0 hsz0 hsz
  refine (sampleMakes_walk a0_0 a0_1 a0_2 a0_3 a0_4 a0_5 a0_6 a0_7 a0_8 a0_9 a0_10 a0_11 a1 a2_0 a2_1 a2_2 a2_3 a2_4 a2_5 a2_6 a2_7 a2_8 a2_9 a2_10 a2_11 a2_12 a3 a4 a5 b0_0 b0_1 b0_2 b0_3 b0_4 b0_5 b0_6 b0_7 b0_8 b0_9 b0_10 b0_11 b1 b2_0 b2_1 b2_2 b2_3 b2_4 b2_5 b2_6 b2_7 b2_8 b2_9 b2_10 b2_11 b2_12 b3 b4 b5 W).mono fun e W' ⟨he, bel⟩ => ?_
  subst he
  exact ⟨_, rfl, _, _, _, [], _, [], hW', trodAll_mk1 (shut_bool Try.underlying4 _), (trodAll_cons_mk (Below.trod laidOut (by kernel_rfl) (of_decide_eq_true (by kernel_rfl)) k0 bel lt0) (trodAll_cons_mk (Below.trod laidOut (by kernel_rfl) (of_decide_eq_true (by kernel_rfl)) k1 bel lt1) (trodAll_cons_mk (Below.trod laidOut (by kernel_rfl) (of_decide_eq_true (by kernel_rfl)) k2 bel lt2) (trodAll_cons_mk (Below.trod laidOut (by kernel_rfl) (of_decide_eq_true (by kernel_rfl)) k3 bel lt3) (trodAll_cons_mk (Below.trod laidOut (by kernel_rfl) (of_decide_eq_true (by kernel_rfl)) k4 bel lt4) (trodAll_cons_mk (Below.trod laidOut (by kernel_rfl) (of_decide_eq_true (by kernel_rfl)) k5 bel lt5) trodAll_mk0)))))), rfl, bel.frame _, fun h => by cases h⟩
theorem over : Rows.sampleMakesRow.holds Try.pinned (OpenSpec.ofChange Rows.sampleMakesSpec) :=
  OpenClaim.holds_of_wide 3 Try.f3 rfl rfl rfl rfl rfl rfl rfl ⟨rfl, rfl, rfl, rfl, rfl⟩ rfl rfl rfl rfl rfl (by kernel_rfl) Try.func3 (by kernel_rfl)
    (of_decide_eq_true (by kernel_rfl)) (by unfold Func.isWrapper; first | (rw [if_pos (by decide +kernel)]; kernel_rfl) | (rw [if_neg (by decide +kernel)]; exact ⟨rfl, rfl⟩))
    (fun os started H enc _ => lifted os started H enc)
theorem proved : Rows.SampleMakesSaid := over
#print axioms proved
end Go.Proofs.Ytopgidgkpafeeaa.sampleMakes
namespace Go.Proofs.Ytopgidgkpafeeaa
/-- The row, under a short name, for the claim. -/
theorem sampleMakes_holds : Rows.SampleMakesSaid := sampleMakes.proved
end Go.Proofs.Ytopgidgkpafeeaa
