/- Weights, means and jitters of any offsets and distances are the document's: the law CombineMeans holds of every input; no condition. -/
import Derived.Test.YtopgidgkpafeeaaRows
import Derived.Test.YtopgidgkpafeeaaM33
import Derived.Test.YtopgidgkpafeeaaM34
import Derived.WalkKit
import Derived.ProofKit
import Derived.OpenShut
import Derived.ShutString
import Derived.ChangeOld
import Derived.Below
import Derived.SizedLaws
import Derived.Carry
import Derived.Test.YtopgidgkpafeeaaM28
namespace Go.Proofs.Ytopgidgkpafeeaa.combineMeans
open Go.ChangeShapes Go.WideShapes Go.ChangeAt Go.RowKit
open Go.ChangeMaps (open_string shut_string)
set_option linter.unusedVariables false
theorem own : ownKnob Try.prog.godebug = none := by kernel_rfl
theorem laidOut : laidOutB Try.prog = true := by kernel_rfl

set_option maxRecDepth 100000 in
theorem lifted (os : Os) (started : os.Started) (H : Type) (enc : TypeId × Value → H) :
    ReturnsInHanded {} Try.checked os 14 .any (Rows.combineMeansSpec.pre6 enc Try.prog Try.f14 Rows.combineMeansRow.domain false) (Rows.combineMeansSpec.post enc Try.prog Try.f14 false true false false) := by
  refine returnsInHanded_of_change_sized (C := Try.checked) own started (by kernel_rfl) Try.func14
    (ChangeSpec.witness6 (enc := enc) (C := Try.checked) false ⟨#[], #[.slice none 0 0, .slice none 0 0, .agg #[.int .i64 0, .int .i64 0], .int .i64 0, .int .i64 0], []⟩ 8 (by kernel_rfl) (by kernel_rfl) (by kernel_rfl) (by kernel_rfl)) ?_
  intro W base args ds gs before hval0 hW hcnd hsz0 _
  have hsz : (DataW.weightsEach Try.prog (Try.f14.params.toList ++ Rows.combineMeansSpec.plain.varTypes Try.prog) (ds ++ gs)).all (· ≤ reachBytes) = true := hsz0
  have hval : ∀ (j : Nat) t v, Try.f14.params[j]? = some t → args[j]? = some v → Value.okWide Try.prog W .any base t v := hval0
  have hW' := hW
  obtain ⟨p, q, hA0, hV, rfl, hfz, hnd⟩ := hW
  have hA : DataW.TrodAll enc Try.prog W 0 (fun _ => true) true Try.f14.params.toList args.toList ds p := hA0
  rw [Try.params14] at hA hval hsz
  obtain ⟨v0, vs0, d0, ds0, p0, q0, hargs, rfl, rfl, h0, r0⟩ := trodAll_cons hA
  obtain ⟨v1, vs1, d1, ds1, p1, q1, rfl, rfl, rfl, h1, r1⟩ := trodAll_cons r0
  obtain ⟨v2, vs2, d2, ds2, p2, q2, rfl, rfl, rfl, h2, r2⟩ := trodAll_cons r1
  obtain ⟨v3, vs3, d3, ds3, p3, q3, rfl, rfl, rfl, h3, r3⟩ := trodAll_cons r2
  obtain ⟨v4, vs4, d4, ds4, p4, q4, rfl, rfl, rfl, h4, r4⟩ := trodAll_cons r3
  obtain ⟨rfl, rfl, rfl⟩ := trodAll_nil r4
  obtain rfl : args = #[v0, v1, v2, v3, v4] := by cases args; simp_all
  obtain ⟨rfl, rfl⟩ := trodVars_none hV
  have k0 := h0
  have lt0 : ∀ x ∈ p0, x.block < W.heap.size := by obtain ⟨m, hm⟩ := k0; exact DataW.trod_lt m _ _ _ hm
  have w0 : Ev.IsXs [.int .i64] W v0 := by
    obtain ⟨a0, len0, cap0, e0⟩ := okWide_slice Try.underlying71 (hval 0 71 v0 rfl rfl)
    obtain ⟨fuel0, hf0⟩ := h0
    exact Ev.open_xs Try.underlying71 (m := 6) (by kernel_rfl) (by kernel_rfl) (by decide) ⟨_, _, _, e0⟩ hf0
  have k1 := h1
  have lt1 : ∀ x ∈ p1, x.block < W.heap.size := by obtain ⟨m, hm⟩ := k1; exact DataW.trod_lt m _ _ _ hm
  have w1 : Ev.IsXs [.int .i64] W v1 := by
    obtain ⟨a1, len1, cap1, e1⟩ := okWide_slice Try.underlying71 (hval 1 71 v1 rfl rfl)
    obtain ⟨fuel1, hf1⟩ := h1
    exact Ev.open_xs Try.underlying71 (m := 6) (by kernel_rfl) (by kernel_rfl) (by decide) ⟨_, _, _, e1⟩ hf1
  have k2 := h2
  have lt2 : ∀ x ∈ p2, x.block < W.heap.size := by obtain ⟨m, hm⟩ := k2; exact DataW.trod_lt m _ _ _ hm
  obtain ⟨l2, rfl, ls2, lc2⟩ := okw_struct Try.underlying42 (ts := [2, 2]) (by kernel_rfl) (hval 2 42 v2 rfl rfl)
  have ls2 : l2.length = 2 := ls2.trans (by kernel_rfl)
  obtain ⟨x2_0, l2_0, rfl, e2_0⟩ := list_cons ls2
  obtain ⟨x2_1, l2_1, rfl, e2_1⟩ := list_cons e2_0
  obtain rfl := list_nil e2_1
  obtain ⟨u2_0, g2_0, o2_0⟩ := lc2 0 x2_0 rfl
  obtain rfl : u2_0 = 2 := (Option.some.inj g2_0).symm
  obtain ⟨a2_0, rfl, b2_0⟩ := okc_int Try.underlying2 o2_0
  have b2_0 : (-9223372036854775808 : Int) ≤ a2_0 ∧ a2_0 ≤ 9223372036854775807 := b2_0
  obtain ⟨u2_1, g2_1, o2_1⟩ := lc2 1 x2_1 rfl
  obtain rfl : u2_1 = 2 := (Option.some.inj g2_1).symm
  obtain ⟨a2_1, rfl, b2_1⟩ := okc_int Try.underlying2 o2_1
  have b2_1 : (-9223372036854775808 : Int) ≤ a2_1 ∧ a2_1 ≤ 9223372036854775807 := b2_1
  have k3 := h3
  have lt3 : ∀ x ∈ p3, x.block < W.heap.size := by obtain ⟨m, hm⟩ := k3; exact DataW.trod_lt m _ _ _ hm
  obtain ⟨a3, rfl, _, _, b3⟩ := open_int Try.underlying2 (hval 3 2 v3 rfl rfl) h3
  have b3 : (-9223372036854775808 : Int) ≤ a3 ∧ a3 ≤ 9223372036854775807 := by simpa [Lit.wf, IntKind.min, IntKind.max, IntKind.signed, IntKind.bits] using b3
  have k4 := h4
  have lt4 : ∀ x ∈ p4, x.block < W.heap.size := by obtain ⟨m, hm⟩ := k4; exact DataW.trod_lt m _ _ _ hm
  obtain ⟨a4, rfl, _, _, b4⟩ := open_int Try.underlying2 (hval 4 2 v4 rfl rfl) h4
  have b4 : (-9223372036854775808 : Int) ≤ a4 ∧ a4 ≤ 9223372036854775807 := by simpa [Lit.wf, IntKind.min, IntKind.max, IntKind.signed, IntKind.bits] using b4
  clear hA0 hval0 hsz0 hsz
  refine (combineMeans_walk w0 w1 b2_0 b2_1 b3 b4).mono fun e W' ⟨he, bel⟩ => ?_
  subst he
  exact ⟨_, rfl, _, _, _, [], _, [], hW', trodAll_mk1 (shut_bool Try.underlying4 _), (trodAll_cons_mk (Below.trod laidOut (by kernel_rfl) (of_decide_eq_true (by kernel_rfl)) k0 bel lt0) (trodAll_cons_mk (Below.trod laidOut (by kernel_rfl) (of_decide_eq_true (by kernel_rfl)) k1 bel lt1) (trodAll_cons_mk (Below.trod laidOut (by kernel_rfl) (of_decide_eq_true (by kernel_rfl)) k2 bel lt2) (trodAll_cons_mk (Below.trod laidOut (by kernel_rfl) (of_decide_eq_true (by kernel_rfl)) k3 bel lt3) (trodAll_cons_mk (Below.trod laidOut (by kernel_rfl) (of_decide_eq_true (by kernel_rfl)) k4 bel lt4) trodAll_mk0))))), rfl, bel.frame _, fun h => by cases h⟩
theorem over : Rows.combineMeansRow.holds Try.pinned (OpenSpec.ofChange Rows.combineMeansSpec) :=
  OpenClaim.holds_of_wide 14 Try.f14 rfl rfl rfl rfl rfl rfl rfl ⟨rfl, rfl, rfl, rfl, rfl⟩ rfl rfl rfl rfl rfl (by kernel_rfl) Try.func14 (by kernel_rfl)
    (of_decide_eq_true (by kernel_rfl)) (by unfold Func.isWrapper; first | (rw [if_pos (by decide +kernel)]; kernel_rfl) | (rw [if_neg (by decide +kernel)]; exact ⟨rfl, rfl⟩))
    (fun os started H enc _ => lifted os started H enc)
theorem proved : Rows.CombineMeansSaid := over
#print axioms proved
end Go.Proofs.Ytopgidgkpafeeaa.combineMeans
namespace Go.Proofs.Ytopgidgkpafeeaa
/-- The row, under a short name, for the claim. -/
theorem combineMeans_holds : Rows.CombineMeansSaid := combineMeans.proved
end Go.Proofs.Ytopgidgkpafeeaa
