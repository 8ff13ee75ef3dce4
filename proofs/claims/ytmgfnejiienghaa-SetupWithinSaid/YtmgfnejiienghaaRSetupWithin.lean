/- What package setup sets lies within what it may be, for every configuration: the law SetupWithin holds of every input; no condition. -/
import Derived.Test.YtmgfnejiienghaaRows
import Derived.Test.YtmgfnejiienghaaLw
import Derived.Test.YtmgfnejiienghaaOpen
import Derived.WalkKit
import Derived.ProofKit
import Derived.OpenShut
import Derived.ShutString
import Derived.ChangeOld
import Derived.Below
import Derived.SizedLaws
import Derived.Carry
namespace Go.Proofs.Ytmgfnejiienghaa.setupWithin
open Go.ChangeShapes Go.WideShapes Go.ChangeAt Go.RowKit
open Go.ChangeMaps (open_string shut_string)
set_option linter.unusedVariables false
theorem own : ownKnob Try.prog.godebug = none := by kernel_rfl
theorem laidOut : laidOutB Try.prog = true := by kernel_rfl

set_option maxRecDepth 100000 in
theorem lifted (os : Os) (started : os.Started) (H : Type) (enc : TypeId × Value → H) :
    ReturnsInHanded {} Try.checked os 3 .any (Rows.setupWithinSpec.pre6 enc Try.prog Try.f3 Rows.setupWithinRow.domain false) (Rows.setupWithinSpec.post enc Try.prog Try.f3 false true false false) := by
  refine returnsInHanded_of_change_sized (C := Try.checked) own started (by kernel_rfl) Try.func3
    (ChangeSpec.witness6 (enc := enc) (C := Try.checked) false ⟨#[], #[.agg #[.float .f64 0, .float .f64 0, .float .f64 0, .float .f64 0, .float .f64 0, .float .f64 0, .float .f64 0, .int .i64 0, .int .i64 0, .int .i64 0, .int .i64 0, .int .i64 0]], []⟩ 8 (by kernel_rfl) (by kernel_rfl) (by kernel_rfl) (by kernel_rfl)) ?_
  intro W base args ds gs before hval0 hW hcnd hsz0 _
  have hsz : (DataW.weightsEach Try.prog (Try.f3.params.toList ++ Rows.setupWithinSpec.plain.varTypes Try.prog) (ds ++ gs)).all (· ≤ reachBytes) = true := hsz0
  have hval : ∀ (j : Nat) t v, Try.f3.params[j]? = some t → args[j]? = some v → Value.okWide Try.prog W .any base t v := hval0
  have hW' := hW
  obtain ⟨p, q, hA0, hV, rfl, hfz, hnd⟩ := hW
  have hA : DataW.TrodAll enc Try.prog W 0 (fun _ => true) true Try.f3.params.toList args.toList ds p := hA0
  rw [Try.params3] at hA hval hsz
  obtain ⟨v0, vs0, d0, ds0, p0, q0, hargs, rfl, rfl, h0, r0⟩ := trodAll_cons hA
  obtain ⟨rfl, rfl, rfl⟩ := trodAll_nil r0
  obtain rfl : args = #[v0] := by cases args; simp_all
  obtain ⟨rfl, rfl⟩ := trodVars_none hV
  have k0 := h0
  have lt0 : ∀ x ∈ p0, x.block < W.heap.size := by obtain ⟨m, hm⟩ := k0; exact DataW.trod_lt m _ _ _ hm
  obtain ⟨l0, rfl, ls0, lc0⟩ := okw_struct Try.underlying24 (ts := [22, 22, 22, 22, 22, 22, 22, 3, 3, 3, 3, 3]) (by kernel_rfl) (hval 0 24 v0 rfl rfl)
  have ls0 : l0.length = 12 := ls0.trans (by kernel_rfl)
  obtain ⟨x0_0, l0_0, rfl, e0_0⟩ := list_cons ls0
  obtain ⟨x0_1, l0_1, rfl, e0_1⟩ := list_cons e0_0
  obtain ⟨x0_2, l0_2, rfl, e0_2⟩ := list_cons e0_1
  obtain ⟨x0_3, l0_3, rfl, e0_3⟩ := list_cons e0_2
  obtain ⟨x0_4, l0_4, rfl, e0_4⟩ := list_cons e0_3
  obtain ⟨x0_5, l0_5, rfl, e0_5⟩ := list_cons e0_4
  obtain ⟨x0_6, l0_6, rfl, e0_6⟩ := list_cons e0_5
  obtain ⟨x0_7, l0_7, rfl, e0_7⟩ := list_cons e0_6
  obtain ⟨x0_8, l0_8, rfl, e0_8⟩ := list_cons e0_7
  obtain ⟨x0_9, l0_9, rfl, e0_9⟩ := list_cons e0_8
  obtain ⟨x0_10, l0_10, rfl, e0_10⟩ := list_cons e0_9
  obtain ⟨x0_11, l0_11, rfl, e0_11⟩ := list_cons e0_10
  obtain rfl := list_nil e0_11
  obtain ⟨u0_0, g0_0, o0_0⟩ := lc0 0 x0_0 rfl
  obtain rfl : u0_0 = 22 := (Option.some.inj g0_0).symm
  obtain ⟨a0_0, rfl, b0_0⟩ := okc_float Try.underlying22 o0_0
  have b0_0 : a0_0 < 18446744073709551616 := b0_0
  obtain ⟨u0_1, g0_1, o0_1⟩ := lc0 1 x0_1 rfl
  obtain rfl : u0_1 = 22 := (Option.some.inj g0_1).symm
  obtain ⟨a0_1, rfl, b0_1⟩ := okc_float Try.underlying22 o0_1
  have b0_1 : a0_1 < 18446744073709551616 := b0_1
  obtain ⟨u0_2, g0_2, o0_2⟩ := lc0 2 x0_2 rfl
  obtain rfl : u0_2 = 22 := (Option.some.inj g0_2).symm
  obtain ⟨a0_2, rfl, b0_2⟩ := okc_float Try.underlying22 o0_2
  have b0_2 : a0_2 < 18446744073709551616 := b0_2
  obtain ⟨u0_3, g0_3, o0_3⟩ := lc0 3 x0_3 rfl
  obtain rfl : u0_3 = 22 := (Option.some.inj g0_3).symm
  obtain ⟨a0_3, rfl, b0_3⟩ := okc_float Try.underlying22 o0_3
  have b0_3 : a0_3 < 18446744073709551616 := b0_3
  obtain ⟨u0_4, g0_4, o0_4⟩ := lc0 4 x0_4 rfl
  obtain rfl : u0_4 = 22 := (Option.some.inj g0_4).symm
  obtain ⟨a0_4, rfl, b0_4⟩ := okc_float Try.underlying22 o0_4
  have b0_4 : a0_4 < 18446744073709551616 := b0_4
  obtain ⟨u0_5, g0_5, o0_5⟩ := lc0 5 x0_5 rfl
  obtain rfl : u0_5 = 22 := (Option.some.inj g0_5).symm
  obtain ⟨a0_5, rfl, b0_5⟩ := okc_float Try.underlying22 o0_5
  have b0_5 : a0_5 < 18446744073709551616 := b0_5
  obtain ⟨u0_6, g0_6, o0_6⟩ := lc0 6 x0_6 rfl
  obtain rfl : u0_6 = 22 := (Option.some.inj g0_6).symm
  obtain ⟨a0_6, rfl, b0_6⟩ := okc_float Try.underlying22 o0_6
  have b0_6 : a0_6 < 18446744073709551616 := b0_6
  obtain ⟨u0_7, g0_7, o0_7⟩ := lc0 7 x0_7 rfl
  obtain rfl : u0_7 = 3 := (Option.some.inj g0_7).symm
  obtain ⟨a0_7, rfl, b0_7⟩ := okc_int Try.underlying3 o0_7
  have b0_7 : (-9223372036854775808 : Int) ≤ a0_7 ∧ a0_7 ≤ 9223372036854775807 := b0_7
  obtain ⟨u0_8, g0_8, o0_8⟩ := lc0 8 x0_8 rfl
  obtain rfl : u0_8 = 3 := (Option.some.inj g0_8).symm
  obtain ⟨a0_8, rfl, b0_8⟩ := okc_int Try.underlying3 o0_8
  have b0_8 : (-9223372036854775808 : Int) ≤ a0_8 ∧ a0_8 ≤ 9223372036854775807 := b0_8
  obtain ⟨u0_9, g0_9, o0_9⟩ := lc0 9 x0_9 rfl
  obtain rfl : u0_9 = 3 := (Option.some.inj g0_9).symm
  obtain ⟨a0_9, rfl, b0_9⟩ := okc_int Try.underlying3 o0_9
  have b0_9 : (-9223372036854775808 : Int) ≤ a0_9 ∧ a0_9 ≤ 9223372036854775807 := b0_9
  obtain ⟨u0_10, g0_10, o0_10⟩ := lc0 10 x0_10 rfl
  obtain rfl : u0_10 = 3 := (Option.some.inj g0_10).symm
  obtain ⟨a0_10, rfl, b0_10⟩ := okc_int Try.underlying3 o0_10
  have b0_10 : (-9223372036854775808 : Int) ≤ a0_10 ∧ a0_10 ≤ 9223372036854775807 := b0_10
  obtain ⟨u0_11, g0_11, o0_11⟩ := lc0 11 x0_11 rfl
  obtain rfl : u0_11 = 3 := (Option.some.inj g0_11).symm
  obtain ⟨a0_11, rfl, b0_11⟩ := okc_int Try.underlying3 o0_11
  have b0_11 : (-9223372036854775808 : Int) ≤ a0_11 ∧ a0_11 ≤ 9223372036854775807 := b0_11
  clear hA0 hval0 hsz0 hsz
  refine (within_walk ⟨a0_0, a0_1, a0_2, a0_3, a0_4, a0_5, a0_6, a0_7, a0_8, a0_9, a0_10, a0_11⟩ ⟨b0_0, b0_1, b0_2, b0_3, b0_4, b0_5, b0_6⟩ W).mono fun e W' ⟨he, bel⟩ => ?_
  subst he
  exact ⟨_, rfl, _, _, _, [], _, [], hW', trodAll_mk1 (shut_bool Try.underlying4 _), (trodAll_cons_mk (Below.trod laidOut (by kernel_rfl) (of_decide_eq_true (by kernel_rfl)) k0 bel lt0) trodAll_mk0), rfl, bel.frame _, fun h => by cases h⟩
theorem over : Rows.setupWithinRow.holds Try.pinned (OpenSpec.ofChange Rows.setupWithinSpec) :=
  OpenClaim.holds_of_wide 3 Try.f3 rfl rfl rfl rfl rfl rfl rfl ⟨rfl, rfl, rfl, rfl, rfl⟩ rfl rfl rfl rfl rfl (by kernel_rfl) Try.func3 (by kernel_rfl)
    (of_decide_eq_true (by kernel_rfl)) (by unfold Func.isWrapper; first | (rw [if_pos (by decide +kernel)]; kernel_rfl) | (rw [if_neg (by decide +kernel)]; exact ⟨rfl, rfl⟩))
    (fun os started H enc _ => lifted os started H enc)
theorem proved : Rows.SetupWithinSaid := over
#print axioms proved
end Go.Proofs.Ytmgfnejiienghaa.setupWithin
namespace Go.Proofs.Ytmgfnejiienghaa
/-- The row, under a short name, for the claim. -/
theorem setupWithin_holds : Rows.SetupWithinSaid := setupWithin.proved
end Go.Proofs.Ytmgfnejiienghaa
