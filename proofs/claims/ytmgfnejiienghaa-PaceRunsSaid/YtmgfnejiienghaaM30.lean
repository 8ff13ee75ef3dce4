/- PaceRuns: the caller's bools, as they come in. -/
import Derived.Test.YtmgfnejiienghaaM14
import Derived.Test.YtmgfnejiienghaaM29
namespace Go.Proofs.Ytmgfnejiienghaa
open Go Go.RowKit
set_option linter.unusedVariables false
def boolAt : Option Value → Bool
  | some (.bool b) => b
  | _ => false
theorem open_bin {H : Type} {enc : TypeId × Value → H} {P : Program} {W : World} {base : Nat} {spare : Nat → Bool} {held : Bool} {t e : TypeId} {m fuel : Nat} {v : Value} {x : DataW H × List MemPlace} (ht : P.underlying t = some (.slice e)) (hks : Ev.flatKs P m e = some [.bool]) (hc : P.cellsOf e = 1) (hv : ∃ a len cap, v = .slice a len cap) (h : DataW.trod enc P W base spare held fuel t v.cells.toList = some x) : ∃ bs, BIn W.heap.size W v bs := by
  have hx := Ev.open_xs ht hks hc (by simp) hv h
  obtain ⟨a0, len0, cap0, rfl⟩ := hv
  have hcs : (Value.slice a0 len0 cap0).cells.toList = [.slice a0 len0 cap0] := rfl
  rw [hcs] at h
  have hcap : len0 ≤ cap0 ∧ (a0 = none → len0 = 0 ∧ cap0 = 0) := by
    rcases DataW.trod_slice ht h with ⟨h1, _⟩ | ⟨a, len, cap, elems, rest, n, _, h1, _, hb, hl, hm, hlen, hel, _, _⟩
    · simp at h1
      obtain ⟨rfl, rfl, rfl⟩ := h1
      exact ⟨Nat.le_refl _, fun _ => ⟨rfl, rfl⟩⟩
    · simp at h1
      obtain ⟨rfl, rfl, rfl⟩ := h1
      exact ⟨hl, fun h => by cases h⟩
  rcases hx with ⟨a, cap, e1⟩ | ⟨b, off, len, cap, c, ty, fr, e1, h1, h2, h3, h4⟩
  · simp only [Value.slice.injEq] at e1
    obtain ⟨rfl, rfl, rfl⟩ := e1
    cases a0 with
    | none => obtain ⟨_, rfl⟩ := hcap.2 rfl; exact ⟨[], .inl ⟨rfl, rfl⟩⟩
    | some a => exact ⟨[], .inr (.inl ⟨rfl, _, _, rfl⟩)⟩
  · simp only [Value.slice.injEq] at e1
    obtain ⟨rfl, rfl, rfl⟩ := e1
    have hb : ∀ i, i < len0 → ∃ b : Bool, c[off + i]? = some (.bool b) := fun i hi => by
      obtain ⟨u, hu, b, rfl⟩ := h4 i 0 .bool hi rfl
      exact ⟨b, by simpa using hu⟩
    refine ⟨(List.range len0).map fun i => boolAt c[off + i]?, .inr (.inr ⟨b, off, cap0, by simp, by simpa using hcap.1, (Array.getElem?_eq_some_iff.1 h3).1, fun i q hq => ?_⟩)⟩
    rw [List.getElem?_map] at hq
    obtain ⟨j, hj, rfl⟩ := Option.map_eq_some_iff.1 hq
    have hi : i < len0 := by
      rcases Nat.lt_or_ge i len0 with h | h
      · exact h
      · rw [List.getElem?_eq_none (by simpa using h)] at hj; cases hj
    rw [List.getElem?_range hi] at hj
    obtain rfl := Option.some.inj hj
    obtain ⟨q, hq⟩ := hb i hi
    have e2 : W.cell? ⟨b, off + i, none⟩ = c[off + i]? := by
      unfold World.cell?
      simp only [h3]
      simp
    rw [e2, hq]
    rfl
end Go.Proofs.Ytmgfnejiienghaa
