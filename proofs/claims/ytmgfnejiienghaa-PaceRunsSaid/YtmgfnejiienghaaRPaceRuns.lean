/- A run is one step behind the other, and two runs are one: the law PaceRuns holds of every input; no condition. -/
import Derived.Test.YtmgfnejiienghaaRows
import Derived.Test.YtmgfnejiienghaaM14
import Derived.Test.YtmgfnejiienghaaM30
import Derived.Test.YtmgfnejiienghaaM31
import Derived.WalkKit
import Derived.ProofKit
import Derived.OpenShut
import Derived.ShutString
import Derived.ChangeOld
import Derived.Below
import Derived.SizedLaws
import Derived.Carry
namespace Go.Proofs.Ytmgfnejiienghaa.paceRuns
open Go.ChangeShapes Go.WideShapes Go.ChangeAt Go.RowKit
open Go.ChangeMaps (open_string shut_string)
set_option linter.unusedVariables false
theorem own : ownKnob Try.prog.godebug = none := by kernel_rfl
theorem laidOut : laidOutB Try.prog = true := by kernel_rfl

set_option maxRecDepth 100000 in
theorem lifted (os : Os) (started : os.Started) (H : Type) (enc : TypeId × Value → H) :
    ReturnsInHanded {} Try.checked os 13 .any (Rows.paceRunsSpec.pre6 enc Try.prog Try.f13 Rows.paceRunsRow.domain false) (Rows.paceRunsSpec.post enc Try.prog Try.f13 false true false false) := by
  refine returnsInHanded_of_change_sized (C := Try.checked) own started (by kernel_rfl) Try.func13
    (ChangeSpec.witness6 (enc := enc) (C := Try.checked) false ⟨#[], #[.agg #[.int .i64 0, .int .i64 0], .slice none 0 0, .slice none 0 0], []⟩ 8 (by kernel_rfl) (by kernel_rfl) (by kernel_rfl) (by kernel_rfl)) ?_
  intro W base args ds gs before hval0 hW hcnd hsz0 _
  have hsz : (DataW.weightsEach Try.prog (Try.f13.params.toList ++ Rows.paceRunsSpec.plain.varTypes Try.prog) (ds ++ gs)).all (· ≤ reachBytes) = true := hsz0
  have hval : ∀ (j : Nat) t v, Try.f13.params[j]? = some t → args[j]? = some v → Value.okWide Try.prog W .any base t v := hval0
  have hW' := hW
  obtain ⟨p, q, hA0, hV, rfl, hfz, hnd⟩ := hW
  have hA : DataW.TrodAll enc Try.prog W 0 (fun _ => true) true Try.f13.params.toList args.toList ds p := hA0
  rw [Try.params13] at hA hval hsz
  obtain ⟨v0, vs0, d0, ds0, p0, q0, hargs, rfl, rfl, h0, r0⟩ := trodAll_cons hA
  obtain ⟨v1, vs1, d1, ds1, p1, q1, rfl, rfl, rfl, h1, r1⟩ := trodAll_cons r0
  obtain ⟨v2, vs2, d2, ds2, p2, q2, rfl, rfl, rfl, h2, r2⟩ := trodAll_cons r1
  obtain ⟨rfl, rfl, rfl⟩ := trodAll_nil r2
  obtain rfl : args = #[v0, v1, v2] := by cases args; simp_all
  obtain ⟨rfl, rfl⟩ := trodVars_none hV
  have k0 := h0
  have lt0 : ∀ x ∈ p0, x.block < W.heap.size := by obtain ⟨m, hm⟩ := k0; exact DataW.trod_lt m _ _ _ hm
  obtain ⟨l0, rfl, ls0, lc0⟩ := okw_struct Try.underlying65 (ts := [3, 3]) (by kernel_rfl) (hval 0 65 v0 rfl rfl)
  have ls0 : l0.length = 2 := ls0.trans (by kernel_rfl)
  obtain ⟨x0_0, l0_0, rfl, e0_0⟩ := list_cons ls0
  obtain ⟨x0_1, l0_1, rfl, e0_1⟩ := list_cons e0_0
  obtain rfl := list_nil e0_1
  obtain ⟨u0_0, g0_0, o0_0⟩ := lc0 0 x0_0 rfl
  obtain rfl : u0_0 = 3 := (Option.some.inj g0_0).symm
  obtain ⟨a0_0, rfl, b0_0⟩ := okc_int Try.underlying3 o0_0
  have b0_0 : (-9223372036854775808 : Int) ≤ a0_0 ∧ a0_0 ≤ 9223372036854775807 := b0_0
  obtain ⟨u0_1, g0_1, o0_1⟩ := lc0 1 x0_1 rfl
  obtain rfl : u0_1 = 3 := (Option.some.inj g0_1).symm
  obtain ⟨a0_1, rfl, b0_1⟩ := okc_int Try.underlying3 o0_1
  have b0_1 : (-9223372036854775808 : Int) ≤ a0_1 ∧ a0_1 ≤ 9223372036854775807 := b0_1
  have k1 := h1
  have lt1 : ∀ x ∈ p1, x.block < W.heap.size := by obtain ⟨m, hm⟩ := k1; exact DataW.trod_lt m _ _ _ hm
  obtain ⟨bs1, w1⟩ : ∃ bs, BIn W.heap.size W v1 bs := by
    obtain ⟨a1, len1, cap1, e1⟩ := okWide_slice Try.underlying66 (hval 1 66 v1 rfl rfl)
    obtain ⟨fuel1, hf1⟩ := h1
    exact open_bin Try.underlying66 (m := 6) (by kernel_rfl) (by kernel_rfl) ⟨_, _, _, e1⟩ hf1
  have k2 := h2
  have lt2 : ∀ x ∈ p2, x.block < W.heap.size := by obtain ⟨m, hm⟩ := k2; exact DataW.trod_lt m _ _ _ hm
  obtain ⟨bs2, w2⟩ : ∃ bs, BIn W.heap.size W v2 bs := by
    obtain ⟨a2, len2, cap2, e2⟩ := okWide_slice Try.underlying66 (hval 2 66 v2 rfl rfl)
    obtain ⟨fuel2, hf2⟩ := h2
    exact open_bin Try.underlying66 (m := 6) (by kernel_rfl) (by kernel_rfl) ⟨_, _, _, e2⟩ hf2
  clear hA0 hval0 hsz0 hsz
  refine (paceRuns_walk a0_0 a0_1 w1 w2).mono fun e W' ⟨he, bel⟩ => ?_
  subst he
  exact ⟨_, rfl, _, _, _, [], _, [], hW', trodAll_mk1 (shut_bool Try.underlying4 _), (trodAll_cons_mk (Below.trod laidOut (by kernel_rfl) (of_decide_eq_true (by kernel_rfl)) k0 bel lt0) (trodAll_cons_mk (Below.trod laidOut (by kernel_rfl) (of_decide_eq_true (by kernel_rfl)) k1 bel lt1) (trodAll_cons_mk (Below.trod laidOut (by kernel_rfl) (of_decide_eq_true (by kernel_rfl)) k2 bel lt2) trodAll_mk0))), rfl, bel.frame _, fun h => by cases h⟩
theorem over : Rows.paceRunsRow.holds Try.pinned (OpenSpec.ofChange Rows.paceRunsSpec) :=
  OpenClaim.holds_of_wide 13 Try.f13 rfl rfl rfl rfl rfl rfl rfl ⟨rfl, rfl, rfl, rfl, rfl⟩ rfl rfl rfl rfl rfl (by kernel_rfl) Try.func13 (by kernel_rfl)
    (of_decide_eq_true (by kernel_rfl)) (by unfold Func.isWrapper; first | (rw [if_pos (by decide +kernel)]; kernel_rfl) | (rw [if_neg (by decide +kernel)]; exact ⟨rfl, rfl⟩))
    (fun os started H enc _ => lifted os started H enc)
theorem proved : Rows.PaceRunsSaid := over
#print axioms proved
end Go.Proofs.Ytmgfnejiienghaa.paceRuns
namespace Go.Proofs.Ytmgfnejiienghaa
/-- The row, under a short name, for the claim. -/
theorem paceRuns_holds : Rows.PaceRunsSaid := paceRuns.proved
end Go.Proofs.Ytmgfnejiienghaa
