/- How far any server is, its span, its metric, and whether it is fit, whatever is set, is the document's: the law RootdTells holds of every input; no condition. -/
import Derived.Test.YtopgidgkpafeeaaRows
import Derived.Test.YtopgidgkpafeeaaT15d
import Derived.Test.YtopgidgkpafeeaaOpen
import Derived.WalkKit
import Derived.ProofKit
import Derived.OpenShut
import Derived.ShutString
import Derived.ChangeOld
import Derived.Below
import Derived.SizedLaws
import Derived.Carry
namespace Go.Proofs.Ytopgidgkpafeeaa.rootdTells
open Go.ChangeShapes Go.WideShapes Go.ChangeAt Go.RowKit
open Go.ChangeMaps (open_string shut_string)
set_option linter.unusedVariables false
theorem own : ownKnob Try.prog.godebug = none := by kernel_rfl
theorem laidOut : laidOutB Try.prog = true := by kernel_rfl

set_option maxRecDepth 100000 in
theorem lifted (os : Os) (started : os.Started) (H : Type) (enc : TypeId × Value → H) :
    ReturnsInHanded {} Try.checked os 9 .any (Rows.rootdTellsSpec.pre6 enc Try.prog Try.f9 Rows.rootdTellsRow.domain false) (Rows.rootdTellsSpec.post enc Try.prog Try.f9 false true false false) := by
  refine returnsInHanded_of_change_sized (C := Try.checked) own started (by kernel_rfl) Try.func9
    (ChangeSpec.witness6 (enc := enc) (C := Try.checked) false ⟨#[], #[.agg #[.int .i64 0, .int .i64 0, .int .i64 0, .int .i64 0, .int .i64 0, .int .i64 0, .int .i64 0, .int .i64 0, .int .i64 0, .int .i64 0, .int .i64 0, .int .i64 0], .agg #[.int .i64 0, .int .i64 0, .int .u32 0, .int .i64 0, .int .i64 0, .int .i64 0, .int .i64 0, .int .i64 0, .int .i64 0, .int .i64 0, .int .u8 0], .int .u32 0, .int .i64 0, .int .i64 0], []⟩ 8 (by kernel_rfl) (by kernel_rfl) (by kernel_rfl) (by kernel_rfl)) ?_
  intro W base args ds gs before hval0 hW hcnd hsz0 _
  have hsz : (DataW.weightsEach Try.prog (Try.f9.params.toList ++ Rows.rootdTellsSpec.plain.varTypes Try.prog) (ds ++ gs)).all (· ≤ reachBytes) = true := hsz0
  have hval : ∀ (j : Nat) t v, Try.f9.params[j]? = some t → args[j]? = some v → Value.okWide Try.prog W .any base t v := hval0
  have hW' := hW
  obtain ⟨p, q, hA0, hV, rfl, hfz, hnd⟩ := hW
  have hA : DataW.TrodAll enc Try.prog W 0 (fun _ => true) true Try.f9.params.toList args.toList ds p := hA0
  rw [Try.params9] at hA hval hsz
  obtain ⟨v0, vs0, d0, ds0, p0, q0, hargs, rfl, rfl, h0, r0⟩ := trodAll_cons hA
  obtain ⟨v1, vs1, d1, ds1, p1, q1, rfl, rfl, rfl, h1, r1⟩ := trodAll_cons r0
  obtain ⟨v2, vs2, d2, ds2, p2, q2, rfl, rfl, rfl, h2, r2⟩ := trodAll_cons r1
  obtain ⟨v3, vs3, d3, ds3, p3, q3, rfl, rfl, rfl, h3, r3⟩ := trodAll_cons r2
  obtain ⟨v4, vs4, d4, ds4, p4, q4, rfl, rfl, rfl, h4, r4⟩ := trodAll_cons r3
  obtain ⟨rfl, rfl, rfl⟩ := trodAll_nil r4
  obtain rfl : args = #[v0, v1, v2, v3, v4] := by cases args; simp_all
  obtain ⟨rfl, rfl⟩ := trodVars_none hV
  have k0 := h0
  have lt0 : ∀ x ∈ p0, x.block < W.heap.size := by obtain ⟨m, hm⟩ := k0; exact DataW.trod_lt m _ _ _ hm
  obtain ⟨l0, rfl, ls0, lc0⟩ := okw_struct Try.underlying23 (ts := [2, 2, 2, 2, 2, 2, 2, 3, 3, 3, 3, 3]) (by kernel_rfl) (hval 0 23 v0 rfl rfl)
  have ls0 : l0.length = 12 := ls0.trans (by kernel_rfl)
  obtain ⟨x0_0, l0_0, rfl, e0_0⟩ := list_cons ls0
  obtain ⟨x0_1, l0_1, rfl, e0_1⟩ := list_cons e0_0
  obtain ⟨x0_2, l0_2, rfl, e0_2⟩ := list_cons e0_1
  obtain ⟨x0_3, l0_3, rfl, e0_3⟩ := list_cons e0_2
  obtain ⟨x0_4, l0_4, rfl, e0_4⟩ := list_cons e0_3
  obtain ⟨x0_5, l0_5, rfl, e0_5⟩ := list_cons e0_4
  obtain ⟨x0_6, l0_6, rfl, e0_6⟩ := list_cons e0_5
  obtain ⟨x0_7, l0_7, rfl, e0_7⟩ := list_cons e0_6
  obtain ⟨x0_8, l0_8, rfl, e0_8⟩ := list_cons e0_7
  obtain ⟨x0_9, l0_9, rfl, e0_9⟩ := list_cons e0_8
  obtain ⟨x0_10, l0_10, rfl, e0_10⟩ := list_cons e0_9
  obtain ⟨x0_11, l0_11, rfl, e0_11⟩ := list_cons e0_10
  obtain rfl := list_nil e0_11
  obtain ⟨u0_0, g0_0, o0_0⟩ := lc0 0 x0_0 rfl
  obtain rfl : u0_0 = 2 := (Option.some.inj g0_0).symm
  obtain ⟨a0_0, rfl, b0_0⟩ := okc_int Try.underlying2 o0_0
  have b0_0 : (-9223372036854775808 : Int) ≤ a0_0 ∧ a0_0 ≤ 9223372036854775807 := b0_0
  obtain ⟨u0_1, g0_1, o0_1⟩ := lc0 1 x0_1 rfl
  obtain rfl : u0_1 = 2 := (Option.some.inj g0_1).symm
  obtain ⟨a0_1, rfl, b0_1⟩ := okc_int Try.underlying2 o0_1
  have b0_1 : (-9223372036854775808 : Int) ≤ a0_1 ∧ a0_1 ≤ 9223372036854775807 := b0_1
  obtain ⟨u0_2, g0_2, o0_2⟩ := lc0 2 x0_2 rfl
  obtain rfl : u0_2 = 2 := (Option.some.inj g0_2).symm
  obtain ⟨a0_2, rfl, b0_2⟩ := okc_int Try.underlying2 o0_2
  have b0_2 : (-9223372036854775808 : Int) ≤ a0_2 ∧ a0_2 ≤ 9223372036854775807 := b0_2
  obtain ⟨u0_3, g0_3, o0_3⟩ := lc0 3 x0_3 rfl
  obtain rfl : u0_3 = 2 := (Option.some.inj g0_3).symm
  obtain ⟨a0_3, rfl, b0_3⟩ := okc_int Try.underlying2 o0_3
  have b0_3 : (-9223372036854775808 : Int) ≤ a0_3 ∧ a0_3 ≤ 9223372036854775807 := b0_3
  obtain ⟨u0_4, g0_4, o0_4⟩ := lc0 4 x0_4 rfl
  obtain rfl : u0_4 = 2 := (Option.some.inj g0_4).symm
  obtain ⟨a0_4, rfl, b0_4⟩ := okc_int Try.underlying2 o0_4
  have b0_4 : (-9223372036854775808 : Int) ≤ a0_4 ∧ a0_4 ≤ 9223372036854775807 := b0_4
  obtain ⟨u0_5, g0_5, o0_5⟩ := lc0 5 x0_5 rfl
  obtain rfl : u0_5 = 2 := (Option.some.inj g0_5).symm
  obtain ⟨a0_5, rfl, b0_5⟩ := okc_int Try.underlying2 o0_5
  have b0_5 : (-9223372036854775808 : Int) ≤ a0_5 ∧ a0_5 ≤ 9223372036854775807 := b0_5
  obtain ⟨u0_6, g0_6, o0_6⟩ := lc0 6 x0_6 rfl
  obtain rfl : u0_6 = 2 := (Option.some.inj g0_6).symm
  obtain ⟨a0_6, rfl, b0_6⟩ := okc_int Try.underlying2 o0_6
  have b0_6 : (-9223372036854775808 : Int) ≤ a0_6 ∧ a0_6 ≤ 9223372036854775807 := b0_6
  obtain ⟨u0_7, g0_7, o0_7⟩ := lc0 7 x0_7 rfl
  obtain rfl : u0_7 = 3 := (Option.some.inj g0_7).symm
  obtain ⟨a0_7, rfl, b0_7⟩ := okc_int Try.underlying3 o0_7
  have b0_7 : (-9223372036854775808 : Int) ≤ a0_7 ∧ a0_7 ≤ 9223372036854775807 := b0_7
  obtain ⟨u0_8, g0_8, o0_8⟩ := lc0 8 x0_8 rfl
  obtain rfl : u0_8 = 3 := (Option.some.inj g0_8).symm
  obtain ⟨a0_8, rfl, b0_8⟩ := okc_int Try.underlying3 o0_8
  have b0_8 : (-9223372036854775808 : Int) ≤ a0_8 ∧ a0_8 ≤ 9223372036854775807 := b0_8
  obtain ⟨u0_9, g0_9, o0_9⟩ := lc0 9 x0_9 rfl
  obtain rfl : u0_9 = 3 := (Option.some.inj g0_9).symm
  obtain ⟨a0_9, rfl, b0_9⟩ := okc_int Try.underlying3 o0_9
  have b0_9 : (-9223372036854775808 : Int) ≤ a0_9 ∧ a0_9 ≤ 9223372036854775807 := b0_9
  obtain ⟨u0_10, g0_10, o0_10⟩ := lc0 10 x0_10 rfl
  obtain rfl : u0_10 = 3 := (Option.some.inj g0_10).symm
  obtain ⟨a0_10, rfl, b0_10⟩ := okc_int Try.underlying3 o0_10
  have b0_10 : (-9223372036854775808 : Int) ≤ a0_10 ∧ a0_10 ≤ 9223372036854775807 := b0_10
  obtain ⟨u0_11, g0_11, o0_11⟩ := lc0 11 x0_11 rfl
  obtain rfl : u0_11 = 3 := (Option.some.inj g0_11).symm
  obtain ⟨a0_11, rfl, b0_11⟩ := okc_int Try.underlying3 o0_11
  have b0_11 : (-9223372036854775808 : Int) ≤ a0_11 ∧ a0_11 ≤ 9223372036854775807 := b0_11
  have k1 := h1
  have lt1 : ∀ x ∈ p1, x.block < W.heap.size := by obtain ⟨m, hm⟩ := k1; exact DataW.trod_lt m _ _ _ hm
  obtain ⟨l1, rfl, ls1, lc1⟩ := okw_struct Try.underlying50 (ts := [3, 3, 24, 2, 2, 2, 2, 2, 2, 2, 5]) (by kernel_rfl) (hval 1 50 v1 rfl rfl)
  have ls1 : l1.length = 11 := ls1.trans (by kernel_rfl)
  obtain ⟨x1_0, l1_0, rfl, e1_0⟩ := list_cons ls1
  obtain ⟨x1_1, l1_1, rfl, e1_1⟩ := list_cons e1_0
  obtain ⟨x1_2, l1_2, rfl, e1_2⟩ := list_cons e1_1
  obtain ⟨x1_3, l1_3, rfl, e1_3⟩ := list_cons e1_2
  obtain ⟨x1_4, l1_4, rfl, e1_4⟩ := list_cons e1_3
  obtain ⟨x1_5, l1_5, rfl, e1_5⟩ := list_cons e1_4
  obtain ⟨x1_6, l1_6, rfl, e1_6⟩ := list_cons e1_5
  obtain ⟨x1_7, l1_7, rfl, e1_7⟩ := list_cons e1_6
  obtain ⟨x1_8, l1_8, rfl, e1_8⟩ := list_cons e1_7
  obtain ⟨x1_9, l1_9, rfl, e1_9⟩ := list_cons e1_8
  obtain ⟨x1_10, l1_10, rfl, e1_10⟩ := list_cons e1_9
  obtain rfl := list_nil e1_10
  obtain ⟨u1_0, g1_0, o1_0⟩ := lc1 0 x1_0 rfl
  obtain rfl : u1_0 = 3 := (Option.some.inj g1_0).symm
  obtain ⟨a1_0, rfl, b1_0⟩ := okc_int Try.underlying3 o1_0
  have b1_0 : (-9223372036854775808 : Int) ≤ a1_0 ∧ a1_0 ≤ 9223372036854775807 := b1_0
  obtain ⟨u1_1, g1_1, o1_1⟩ := lc1 1 x1_1 rfl
  obtain rfl : u1_1 = 3 := (Option.some.inj g1_1).symm
  obtain ⟨a1_1, rfl, b1_1⟩ := okc_int Try.underlying3 o1_1
  have b1_1 : (-9223372036854775808 : Int) ≤ a1_1 ∧ a1_1 ≤ 9223372036854775807 := b1_1
  obtain ⟨u1_2, g1_2, o1_2⟩ := lc1 2 x1_2 rfl
  obtain rfl : u1_2 = 24 := (Option.some.inj g1_2).symm
  obtain ⟨a1_2, rfl, b1_2⟩ := okc_int Try.underlying24 o1_2
  have b1_2 : (0 : Int) ≤ a1_2 ∧ a1_2 ≤ 4294967295 := b1_2
  obtain ⟨u1_3, g1_3, o1_3⟩ := lc1 3 x1_3 rfl
  obtain rfl : u1_3 = 2 := (Option.some.inj g1_3).symm
  obtain ⟨a1_3, rfl, b1_3⟩ := okc_int Try.underlying2 o1_3
  have b1_3 : (-9223372036854775808 : Int) ≤ a1_3 ∧ a1_3 ≤ 9223372036854775807 := b1_3
  obtain ⟨u1_4, g1_4, o1_4⟩ := lc1 4 x1_4 rfl
  obtain rfl : u1_4 = 2 := (Option.some.inj g1_4).symm
  obtain ⟨a1_4, rfl, b1_4⟩ := okc_int Try.underlying2 o1_4
  have b1_4 : (-9223372036854775808 : Int) ≤ a1_4 ∧ a1_4 ≤ 9223372036854775807 := b1_4
  obtain ⟨u1_5, g1_5, o1_5⟩ := lc1 5 x1_5 rfl
  obtain rfl : u1_5 = 2 := (Option.some.inj g1_5).symm
  obtain ⟨a1_5, rfl, b1_5⟩ := okc_int Try.underlying2 o1_5
  have b1_5 : (-9223372036854775808 : Int) ≤ a1_5 ∧ a1_5 ≤ 9223372036854775807 := b1_5
  obtain ⟨u1_6, g1_6, o1_6⟩ := lc1 6 x1_6 rfl
  obtain rfl : u1_6 = 2 := (Option.some.inj g1_6).symm
  obtain ⟨a1_6, rfl, b1_6⟩ := okc_int Try.underlying2 o1_6
  have b1_6 : (-9223372036854775808 : Int) ≤ a1_6 ∧ a1_6 ≤ 9223372036854775807 := b1_6
  obtain ⟨u1_7, g1_7, o1_7⟩ := lc1 7 x1_7 rfl
  obtain rfl : u1_7 = 2 := (Option.some.inj g1_7).symm
  obtain ⟨a1_7, rfl, b1_7⟩ := okc_int Try.underlying2 o1_7
  have b1_7 : (-9223372036854775808 : Int) ≤ a1_7 ∧ a1_7 ≤ 9223372036854775807 := b1_7
  obtain ⟨u1_8, g1_8, o1_8⟩ := lc1 8 x1_8 rfl
  obtain rfl : u1_8 = 2 := (Option.some.inj g1_8).symm
  obtain ⟨a1_8, rfl, b1_8⟩ := okc_int Try.underlying2 o1_8
  have b1_8 : (-9223372036854775808 : Int) ≤ a1_8 ∧ a1_8 ≤ 9223372036854775807 := b1_8
  obtain ⟨u1_9, g1_9, o1_9⟩ := lc1 9 x1_9 rfl
  obtain rfl : u1_9 = 2 := (Option.some.inj g1_9).symm
  obtain ⟨a1_9, rfl, b1_9⟩ := okc_int Try.underlying2 o1_9
  have b1_9 : (-9223372036854775808 : Int) ≤ a1_9 ∧ a1_9 ≤ 9223372036854775807 := b1_9
  obtain ⟨u1_10, g1_10, o1_10⟩ := lc1 10 x1_10 rfl
  obtain rfl : u1_10 = 5 := (Option.some.inj g1_10).symm
  obtain ⟨a1_10, rfl, b1_10⟩ := okc_int Try.underlying5 o1_10
  have b1_10 : (0 : Int) ≤ a1_10 ∧ a1_10 ≤ 255 := b1_10
  have k2 := h2
  have lt2 : ∀ x ∈ p2, x.block < W.heap.size := by obtain ⟨m, hm⟩ := k2; exact DataW.trod_lt m _ _ _ hm
  obtain ⟨a2, rfl, _, _, b2⟩ := open_int Try.underlying24 (hval 2 24 v2 rfl rfl) h2
  have b2 : (0 : Int) ≤ a2 ∧ a2 ≤ 4294967295 := by simpa [Lit.wf, IntKind.min, IntKind.max, IntKind.signed, IntKind.bits] using b2
  have k3 := h3
  have lt3 : ∀ x ∈ p3, x.block < W.heap.size := by obtain ⟨m, hm⟩ := k3; exact DataW.trod_lt m _ _ _ hm
  obtain ⟨a3, rfl, _, _, b3⟩ := open_int Try.underlying3 (hval 3 3 v3 rfl rfl) h3
  have b3 : (-9223372036854775808 : Int) ≤ a3 ∧ a3 ≤ 9223372036854775807 := by simpa [Lit.wf, IntKind.min, IntKind.max, IntKind.signed, IntKind.bits] using b3
  have k4 := h4
  have lt4 : ∀ x ∈ p4, x.block < W.heap.size := by obtain ⟨m, hm⟩ := k4; exact DataW.trod_lt m _ _ _ hm
  obtain ⟨a4, rfl, _, _, b4⟩ := open_int Try.underlying2 (hval 4 2 v4 rfl rfl) h4
  have b4 : (-9223372036854775808 : Int) ≤ a4 ∧ a4 ≤ 9223372036854775807 := by simpa [Lit.wf, IntKind.min, IntKind.max, IntKind.signed, IntKind.bits] using b4
  clear hA0 hval0 hsz0 hsz
  refine (rootdTells_walk a0_0 a0_1 a0_2 a0_3 a0_4 a0_5 a0_6 a0_7 a0_8 a0_9 a0_10 a0_11 a1_0 a1_1 a1_2 a1_3 a1_4 a1_5 a1_6 a1_7 a1_8 a1_9 a1_10 a2 a3 a4 b0_0 b0_1 b0_2 b0_3 b0_4 b0_5 b0_6 b0_7 b0_8 b0_9 b0_10 b0_11 b1_0 b1_1 b1_2 b1_3 b1_4 b1_5 b1_6 b1_7 b1_8 b1_9 b1_10 b2 b3 b4 W).mono fun e W' ⟨he, bel⟩ => ?_
  subst he
  exact ⟨_, rfl, _, _, _, [], _, [], hW', trodAll_mk1 (shut_bool Try.underlying4 _), (trodAll_cons_mk (Below.trod laidOut (by kernel_rfl) (of_decide_eq_true (by kernel_rfl)) k0 bel lt0) (trodAll_cons_mk (Below.trod laidOut (by kernel_rfl) (of_decide_eq_true (by kernel_rfl)) k1 bel lt1) (trodAll_cons_mk (Below.trod laidOut (by kernel_rfl) (of_decide_eq_true (by kernel_rfl)) k2 bel lt2) (trodAll_cons_mk (Below.trod laidOut (by kernel_rfl) (of_decide_eq_true (by kernel_rfl)) k3 bel lt3) (trodAll_cons_mk (Below.trod laidOut (by kernel_rfl) (of_decide_eq_true (by kernel_rfl)) k4 bel lt4) trodAll_mk0))))), rfl, bel.frame _, fun h => by cases h⟩
theorem over : Rows.rootdTellsRow.holds Try.pinned (OpenSpec.ofChange Rows.rootdTellsSpec) :=
  OpenClaim.holds_of_wide 9 Try.f9 rfl rfl rfl rfl rfl rfl rfl ⟨rfl, rfl, rfl, rfl, rfl⟩ rfl rfl rfl rfl rfl (by kernel_rfl) Try.func9 (by kernel_rfl)
    (of_decide_eq_true (by kernel_rfl)) (by unfold Func.isWrapper; first | (rw [if_pos (by decide +kernel)]; kernel_rfl) | (rw [if_neg (by decide +kernel)]; exact ⟨rfl, rfl⟩))
    (fun os started H enc _ => lifted os started H enc)
theorem proved : Rows.RootdTellsSaid := over
#print axioms proved
end Go.Proofs.Ytopgidgkpafeeaa.rootdTells
namespace Go.Proofs.Ytopgidgkpafeeaa
/-- The row, under a short name, for the claim. -/
theorem rootdTells_holds : Rows.RootdTellsSaid := rootdTells.proved
end Go.Proofs.Ytopgidgkpafeeaa
