/- Law 14: what Tell comes to: its numbers, their bounds, the least delay. -/
import Derived.Test.YthhipnhnpjhaaaaM30
namespace Go.Proofs.Ythhipnhnpjhaaaa
open Go Go.RowKit Ev
set_option linter.unusedVariables false
set_option linter.unusedSimpArgs false
set_option maxRecDepth 100000
set_option maxHeartbeats 0

section
variable {c : Nat → Int} {m : Nat} {had : Bool} {u : Nat → Int} {own at_ tot : Int}
noncomputable def tDs (c : Nat → Int) (m : Nat) (u : Nat → Int) (at_ : Int) : Int := (dispE m 8).den (tE c m false u 0 at_ 0)
noncomputable def tJs (c : Nat → Int) (m : Nat) (u : Nat → Int) (own at_ tot : Int) : Int := (jitE m).den (tE c m false u own at_ tot)
theorem dispE_vb : ∀ m, m ≤ 8 → (dispE m 8).vb 93 = true
  | 0, _ => by kernel_rfl
  | 1, _ => by kernel_rfl
  | 2, _ => by kernel_rfl
  | 3, _ => by kernel_rfl
  | 4, _ => by kernel_rfl
  | 5, _ => by kernel_rfl
  | 6, _ => by kernel_rfl
  | 7, _ => by kernel_rfl
  | 8, _ => by kernel_rfl
  | n + 9, h => absurd h (by omega)
theorem jitE_vb : ∀ m, m ≤ 8 → (jitE m).vb 135 = true
  | 0, _ => by kernel_rfl
  | 1, _ => by kernel_rfl
  | 2, _ => by kernel_rfl
  | 3, _ => by kernel_rfl
  | 4, _ => by kernel_rfl
  | 5, _ => by kernel_rfl
  | 6, _ => by kernel_rfl
  | 7, _ => by kernel_rfl
  | 8, _ => by kernel_rfl
  | n + 9, h => absurd h (by omega)
theorem tDs_eq (hm : m ≤ 8) : (dispE m 8).den (tE c m had u own at_ tot) = tDs c m u at_ := by
  have hv := dispE_vb m hm
  unfold tDs
  generalize dispE m 8 = e at hv ⊢
  refine IE.vb_den (ρ := tE c m false u 0 at_ 0) (ρ' := tE c m had u own at_ tot) (n := 93) (m := 0) ⟨fun j hj => ?_, fun j hj => by omega, rfl, rfl, rfl, rfl⟩ hv
  show tI c m u own at_ tot j = tI c m u 0 at_ 0 j
  unfold tI
  by_cases h1 : j < 8
  · rw [if_pos h1, if_pos h1]
  · by_cases h2 : j < 48
    · rw [if_neg h1, if_neg h1, if_pos h2, if_pos h2]
    · by_cases h3 : j < 52
      · rw [if_neg h1, if_neg h1, if_neg h2, if_neg h2, if_pos h3, if_pos h3]
      · by_cases h4 : j < 53
        · rw [if_neg h1, if_neg h1, if_neg h2, if_neg h2, if_neg h3, if_neg h3, if_pos h4, if_pos h4]
        · rw [if_neg h1, if_neg h1, if_neg h2, if_neg h2, if_neg h3, if_neg h3, if_neg h4, if_neg h4, if_pos hj, if_pos hj]
theorem tJs_eq (hm : m ≤ 8) : (jitE m).den (tE c m had u own at_ tot) = tJs c m u own at_ tot := by
  have hv := jitE_vb m hm
  unfold tJs
  generalize jitE m = e at hv ⊢
  exact IE.vb_den (ρ := tE c m false u own at_ tot) (ρ' := tE c m had u own at_ tot) (n := 135) (m := 0) ⟨fun j hj => rfl, fun j hj => by omega, rfl, rfl, rfl, rfl⟩ hv
theorem tellV_eq (hm : m ≤ 8) (h1 : 1 ≤ m) : tellV c m had u own at_ tot = .tuple #[.agg #[.int .i64 (tHr c m tot 0), .int .i64 (tF c m 0 1), .int .i64 (tDs c m u at_), .int .i64 (tJs c m u own at_ tot), .int .i64 (tF c m 0 3)], .bool true] := by
  unfold tellV tRes
  rw [if_neg (by omega)]
  have e1 := tI_h (c := c) (m := m) (u := u) (own := own) (at_ := at_) (tot := tot) (k := 0) (by omega)
  have e2 := tI_f (c := c) (m := m) (u := u) (own := own) (at_ := at_) (tot := tot) (k := 0) (x := 1) (by omega) (by omega)
  have e3 := tI_f (c := c) (m := m) (u := u) (own := own) (at_ := at_) (tot := tot) (k := 0) (x := 3) (by omega) (by omega)
  have d1 := tDs_eq (c := c) (had := had) (u := u) (own := own) (at_ := at_) (tot := tot) hm
  have d2 := tJs_eq (c := c) (had := had) (u := u) (own := own) (at_ := at_) (tot := tot) hm
  generalize dispE m 8 = x1 at d1 ⊢
  generalize jitE m = x2 at d2 ⊢
  simp only [SV.den, SV.denL, BE.den, d1, d2]
  show Value.tuple #[.agg #[.int .i64 (tI c m u own at_ tot (95 + 0)), .int .i64 (tI c m u own at_ tot (53 + 5 * 0 + 1)), _, _, .int .i64 (tI c m u own at_ tot (53 + 5 * 0 + 3))], .bool true] = _
  rw [e1, e2, e3]
theorem sat_InI (x : Int) : InI (sat x) := by have := sat_in x; exact ⟨by omega, by omega⟩
theorem tHr_in {k : Nat} : InI (tHr c m tot k) := sat_InI _
theorem tDs_in (hm : m ≤ 8) : InI (tDs c m u at_) := by
  unfold tDs
  show InI (apN 1 _ _ 0)
  exact sat_InI _
theorem mxI_in {x y : Int} (hx : InI x) (hy : InI y) : InI (mxI x y) := by unfold mxI; split; exact hy; exact hx
theorem apN_in9 (x y z : Int) : InI (apN 9 x y z) := by have := arN_ok 9 (0, 9223372036854775807) rfl x y z; exact ⟨by have := this.1; omega, this.2⟩
theorem tJs_in : InI (tJs c m u own at_ tot) := by
  unfold tJs jitE
  split
  · exact mxI_in (show InI 0 from ⟨by decide, by decide⟩) (sat_InI _)
  · exact mxI_in (apN_in9 _ 0 0) (sat_InI _)
theorem tP_lt (h1 : 1 ≤ m) : tP c m 0 < m := by
  unfold tP
  rw [if_pos (by omega)]
  exact srtF_in (by omega) (by omega)
theorem tF_min (h1 : 1 ≤ m) {k : Nat} (hk : k < m) : tF c m 0 1 ≤ c (5 * k + 1) := by
  unfold tF tP
  rw [if_pos (by omega)]
  exact srtF_min (d := fun x => c (5 * x + 1)) (i := m - 1) (k := k) (by omega)
/-- a call of Tell that is known: its arguments, its results by their names -/
theorem tell_known {ρ : Env} {e : Nat → IE} {em : IE} {b : BE} {eu : Nat → IE} {o a t : IE} {r1 r2 r3 r4 r5 : IE} {m : Nat} (hm : m ≤ 8) (h1 : 1 ≤ m) (hem : em.den ρ = m) (hc : ∀ k, k < 40 → InI ((e k).den ρ)) (hu : ∀ k, k < 4 → InI ((eu k).den ρ)) (ho : InI (o.den ρ)) (ha : InI (a.den ρ)) (ht : InI (t.den ρ))
    (q1 : r1.den ρ = tHr (fun k => (e k).den ρ) m (t.den ρ) 0) (q2 : r2.den ρ = tF (fun k => (e k).den ρ) m 0 1) (q3 : r3.den ρ = tDs (fun k => (e k).den ρ) m (fun k => (eu k).den ρ) (a.den ρ)) (q4 : r4.den ρ = tJs (fun k => (e k).den ρ) m (fun k => (eu k).den ρ) (o.den ρ) (a.den ρ) (t.den ρ)) (q5 : r5.den ρ = tF (fun k => (e k).den ρ) m 0 3) :
    Known Try.prog ρ (18, [stdS, .agg (filS e em b eu), .int .i64 o, .int .i64 a, .int .i64 t], .tuple [.agg [.int .i64 r1, .int .i64 r2, .int .i64 r3, .int .i64 r4, .int .i64 r5], .bool (.lit true)]) := by
  intro φ w _
  have h := tell_any (had := b.den ρ) hm hc hu ho ha ht w
  have e1 : (SV.denL ρ φ [stdS, .agg (filS e em b eu), .int .i64 o, .int .i64 a, .int .i64 t]).toArray = #[stdV, .agg (filV (fun k => (e k).den ρ) m (b.den ρ) fun k => (eu k).den ρ).toArray, .int .i64 (o.den ρ), .int .i64 (a.den ρ), .int .i64 (t.den ρ)] := by
    simp only [SV.denL, SV.den, filS_den, hem]
    rfl
  have e2 : (SV.tuple [.agg [.int .i64 r1, .int .i64 r2, .int .i64 r3, .int .i64 r4, .int .i64 r5], .bool (.lit true)]).den ρ φ = tellV (fun k => (e k).den ρ) m (b.den ρ) (fun k => (eu k).den ρ) (o.den ρ) (a.den ρ) (t.den ρ) := by
    rw [tellV_eq hm h1]
    simp only [SV.denL, SV.den, BE.den, q1, q2, q3, q4, q5]
  show Calls _ _ (SV.denL ρ φ [stdS, .agg (filS e em b eu), .int .i64 o, .int .i64 a, .int .i64 t]).toArray w _
  rw [e1]
  refine h.mono ?_
  rintro e'' w' ⟨rfl, hb⟩
  exact ⟨congrArg Ending.returned e2.symm, hb⟩
/-- numbers that hang on the first cells alone -/
theorem tP_congr {c d : Nat → Int} (hm : m ≤ 8) (h : ∀ k, k < 40 → c k = d k) (k : Nat) : tP c m k = tP d m k := by
  unfold tP
  split
  · rw [srtF_dcongr (d := fun x => c (5 * x + 1)) (e := fun x => d (5 * x + 1)) (m := 8) (by omega) (fun x hx => h _ (by omega))]
  · rfl
theorem tF_congr {c d : Nat → Int} (hm : m ≤ 8) (h : ∀ k, k < 40 → c k = d k) (k : Nat) {x : Nat} (hx : x < 5) : tF c m k x = tF d m k x := by
  unfold tF
  rw [tP_congr hm h]
  have := tP_in (c := d) (m := m) (k := k) hm
  exact h _ (by omega)
theorem tHr_congr {c d : Nat → Int} (hm : m ≤ 8) (h : ∀ k, k < 40 → c k = d k) (k : Nat) : tHr c m tot k = tHr d m tot k := by
  unfold tHr
  rw [tF_congr hm h k (by omega), tF_congr hm h k (by omega)]
theorem tDr_congr {c d : Nat → Int} (hm : m ≤ 8) (h : ∀ k, k < 40 → c k = d k) (k : Nat) : tDr c m tot k = tDr d m tot k := by
  unfold tDr
  rw [tHr_congr hm h, tHr_congr hm h]
theorem tSr_congr {c d : Nat → Int} (hm : m ≤ 8) (h : ∀ k, k < 40 → c k = d k) : ∀ k : Nat, tSr c m tot k = tSr d m tot k
  | 0 => rfl
  | k + 1 => by
    unfold tSr tQr
    rw [tSr_congr hm h k, tDr_congr hm h]
theorem tI_congr {c d : Nat → Int} (hm : m ≤ 8) (h : ∀ k, k < 40 → c k = d k) (n : Nat) : tI c m u own at_ tot n = tI d m u own at_ tot n := by
  unfold tI
  by_cases h2 : n < 48
  · rw [tP_congr hm h]
    split
    · rfl
    · rw [h (n - 8) (by omega)]
  · rw [tP_congr hm h, if_neg (show ¬ n < 8 by omega), if_neg h2, if_neg (show ¬ n < 8 by omega), if_neg h2, tF_congr hm h _ (Nat.mod_lt _ (by decide)), tHr_congr hm h, tDr_congr hm h, tSr_congr hm h, tSr_congr hm h, show tQr c m tot (n - 111) = tQr d m tot (n - 111) by unfold tQr; rw [tDr_congr hm h]]
theorem tDs_congr {c d : Nat → Int} (hm : m ≤ 8) (h : ∀ k, k < 40 → c k = d k) : tDs c m u at_ = tDs d m u at_ := by
  unfold tDs tE
  rw [funext fun n => tI_congr (u := u) (own := 0) (at_ := at_) (tot := 0) hm h n]
theorem tJs_congr {c d : Nat → Int} (hm : m ≤ 8) (h : ∀ k, k < 40 → c k = d k) : tJs c m u own at_ tot = tJs d m u own at_ tot := by
  unfold tJs tE
  rw [funext fun n => tI_congr (u := u) (own := own) (at_ := at_) (tot := tot) hm h n]
theorem tell_known2 {ρ : Env} {e : Nat → IE} {em : IE} {b : BE} {eu : Nat → IE} {o a t : IE} {r1 r2 r3 r4 r5 : IE} {m : Nat} {c : Nat → Int} (hm : m ≤ 8) (h1 : 1 ≤ m) (hem : em.den ρ = m) (hce : ∀ k, k < 40 → (e k).den ρ = c k) (hc : ∀ k, k < 40 → InI (c k)) (hu : ∀ k, k < 4 → InI ((eu k).den ρ)) (ho : InI (o.den ρ)) (ha : InI (a.den ρ)) (ht : InI (t.den ρ))
    (q1 : r1.den ρ = tHr c m (t.den ρ) 0) (q2 : r2.den ρ = tF c m 0 1) (q3 : r3.den ρ = tDs c m (fun k => (eu k).den ρ) (a.den ρ)) (q4 : r4.den ρ = tJs c m (fun k => (eu k).den ρ) (o.den ρ) (a.den ρ) (t.den ρ)) (q5 : r5.den ρ = tF c m 0 3) :
    Known Try.prog ρ (18, [stdS, .agg (filS e em b eu), .int .i64 o, .int .i64 a, .int .i64 t], .tuple [.agg [.int .i64 r1, .int .i64 r2, .int .i64 r3, .int .i64 r4, .int .i64 r5], .bool (.lit true)]) :=
  tell_known hm h1 hem (fun k hk => by rw [hce k hk]; exact hc k hk) hu ho ha ht (by rw [q1, tHr_congr hm (fun k hk => (hce k hk).symm)]) (by rw [q2, tF_congr hm (fun k hk => (hce k hk).symm) 0 (by omega)]) (by rw [q3, tDs_congr hm (fun k hk => (hce k hk).symm)]) (by rw [q4, tJs_congr hm (fun k hk => (hce k hk).symm)]) (by rw [q5, tF_congr hm (fun k hk => (hce k hk).symm) 0 (by omega)])
end
end Go.Proofs.Ythhipnhnpjhaaaa
