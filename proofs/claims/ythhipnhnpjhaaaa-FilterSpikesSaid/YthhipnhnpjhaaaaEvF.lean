/- A checked evaluator: each operation. -/
import Derived.Test.YthhipnhnpjhaaaaEvE
namespace Go.Proofs.Ythhipnhnpjhaaaa
open Go Go.RowKit
set_option linter.unusedVariables false
namespace Ev
variable {P : Program} {ρ : Env} {E : List (Nat × Nat)} {w0 : World} {φ : Nat → Nat} {st : Store} {w : World}

theorem newB_ok {id : Nat} {B : Blk} {st' : Store} {r wl : List Loc} {u : Unit} (h : newB id B st = .ok u st' r wl) : st.get id = none ∧ id % 1048576 ≠ 0 ∧ st' = (id, B) :: st := by
  unfold newB at h
  cases hB : st.get id with
  | none =>
    simp only [hB] at h
    split at h
    · cases h
    · rename_i hz; cases h; exact ⟨rfl, by simpa using hz, rfl⟩
  | some C => simp only [hB] at h; cases h
theorem chk_ok {l : List Nat} {st' : Store} {r wl : List Loc} {u : Unit} (h : chk l st = .ok u st' r wl) : st' = st ∧ ∀ c ∈ l, (st.get c).isSome := by
  unfold chk at h
  split at h
  · rename_i ha
    cases h
    exact ⟨rfl, fun c hc => List.all_eq_true.1 ha c hc⟩
  · cases h
theorem newR_ok {id : Nat} {B : Blk} {st' : Store} {r wl : List Loc} {u : Unit} (h : newR id B st = .ok u st' r wl) :
    st.get id = none ∧ id % 1048576 ≠ 0 ∧ (∀ c ∈ SV.idsL B.cells, (st.get c).isSome) ∧ headIs B.cells = false ∧ st' = (id, B) :: st := by
  unfold newR at h
  obtain ⟨_, s1, _, _, _, _, h1, h2, _, _⟩ := M.bind_ok h
  obtain ⟨rfl, hcl⟩ := chk_ok h1
  split at h2
  · cases h2
  · rename_i hh
    obtain ⟨h3, h4, h5⟩ := newB_ok h2
    exact ⟨h3, h4, hcl, by simpa using hh, h5⟩

/-- blocks laid by a row of cells -/
theorem newRow_run (t : TypeId) (cs : Array Value) (w : World) : (newRow t cs).run P w = .ok ⟨w.heap.size, 0, none⟩ (w.alloc (.cells cs t)) := by
  rfl
theorem zeroS_run {t : TypeId} {cs : List SV} (h : zeroS P t = some cs) (w : World) : ∃ z, (zeroValue t).run P w = .ok z w ∧ z.cells = (SV.denL ρ φ cs).toArray := by
  unfold zeroS at h
  cases hq : P.info? t with
  | none => simp [hq] at h
  | some i =>
    simp only [hq, Option.bind_some] at h
    cases hz : i.zero with
    | none => simp [hz] at h
    | some z =>
      simp only [hz, Option.bind_some] at h
      refine ⟨z, by simp [zeroValue, typeInfo, hq, hz], ?_⟩
      rw [← (parts_den (ρ := ρ) (φ := φ) h).1, ofValue_den]
theorem parts_ids {v : SV} {cs : List SV} (h : v.parts = some cs) : ∀ c ∈ SV.idsL cs, c ∈ v.ids := by
  unfold SV.parts at h
  split at h
  · split at h
    · cases h; intro c hc; simpa [SV.ids] using hc
    · cases h
  · split at h
    · cases h; intro c hc; simpa [SV.idsL] using hc
    · cases h
theorem zeroS_ids {t : TypeId} {cs : List SV} (h : zeroS P t = some cs) : SV.idsL cs = [] := by
  unfold zeroS at h
  cases hq : P.info? t with
  | none => simp [hq] at h
  | some i =>
    simp only [hq, Option.bind_some] at h
    cases hz : i.zero with
    | none => simp [hz] at h
    | some z =>
      simp only [hz, Option.bind_some] at h
      have := parts_ids h
      rw [ofValue_ids] at this
      exact List.eq_nil_iff_forall_not_mem.2 fun c hc => by cases this c hc

theorem intBits_run {op : BinOp} {k : IntKind} {x y : Int} (ho : op = .and ∨ op = .or ∨ op = .xor ∨ op = .andNot) (w : World) : (Op.intBits op k x y).run P w = .ok (.int k (arI op k x y)) w := by
  rcases ho with rfl | rfl | rfl | rfl <;> simp [Op.intBits, arI, bitsI]
theorem binOp_int {op : BinOp} {k : IntKind} {a b : IE} {t : TypeId} {v : SV} {X : Ctx} (hX : Knows ρ X) {l : IntKind} {st' : Store} {r wl : List Loc} (h : binI X op k l a b st = .ok v st' r wl) (w : World) :
    st' = st ∧ (binOp op t (.int k (a.den ρ)) (.int l (b.den ρ))).run P w = .ok (v.den ρ φ) w := by
  unfold binI at h
  cases op <;> dsimp only at h
  case shl | shr =>
    obtain ⟨u, s1, _, _, _, _, h1, h2, _, _⟩ := M.bind_ok h
    obtain ⟨e, rfl⟩ := decI_ok hX h1
    split at h2
    · cases h2
    · rename_i hu
      obtain ⟨rfl, rfl, _, _⟩ := M.pure_ok h2
      refine ⟨rfl, ?_⟩
      have hb : ¬ b.den ρ < 0 := by
        intro hh
        apply hu
        rw [← e]
        exact decide_eq_true hh
      simp [binOp, Op.shift, hb, SV.den, mkArX_den hX, arI]
  case quo | rem =>
    split at h
    · rename_i hk
      subst hk
      obtain ⟨u, s1, _, _, _, _, h1, h2, _, _⟩ := M.bind_ok h
      obtain ⟨e, rfl⟩ := decI_ok hX h1
      split at h2
      · cases h2
      · rename_i hu
        obtain ⟨rfl, rfl, _, _⟩ := M.pure_ok h2
        refine ⟨rfl, ?_⟩
        have hb : ¬ b.den ρ = 0 := by
          intro hh
          apply hu
          rw [← e]
          simpa [cmpI, IE.den] using hh
        simp [binOp, Op.intDiv, hb, SV.den, mkArX_den hX, arI]
    · cases h
  case and | or | xor | andNot =>
    split at h
    · rename_i hk
      subst hk
      obtain ⟨rfl, rfl, _, _⟩ := M.pure_ok h
      refine ⟨rfl, ?_⟩
      simp [binOp, SV.den, mkArX_den hX, intBits_run]
    · cases h
  case add | sub | mul =>
    split at h
    · rename_i hk
      subst hk
      obtain ⟨rfl, rfl, _, _⟩ := M.pure_ok h
      refine ⟨rfl, ?_⟩
      simp [binOp, Op.intArith, SV.den, mkArX_den hX, arI]
    · cases h
  all_goals
    split at h
    · rename_i hk
      subst hk
      obtain ⟨rfl, rfl, _, _⟩ := M.pure_ok h
      refine ⟨rfl, ?_⟩
      simp [binOp, Op.intCmp, SV.den, mkCmp_den, cmpI]
    · cases h
end Ev
end Go.Proofs.Ythhipnhnpjhaaaa
