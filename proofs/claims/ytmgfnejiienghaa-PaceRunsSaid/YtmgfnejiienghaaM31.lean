/- What a struct that came in holds, cell by cell. -/
import Derived.Test.YtmgfnejiienghaaRows
import Derived.WalkKit
import Derived.ProofKit
import Derived.OpenShut
namespace Go.Proofs.Ytmgfnejiienghaa
open Go.RowKit

theorem list_cons {α : Type} {l : List α} {n : Nat} (h : l.length = n + 1) : ∃ a r, l = a :: r ∧ r.length = n := by
  cases l with
  | nil => simp at h
  | cons a r => exact ⟨a, r, rfl, by simpa using h⟩
theorem list_nil {α : Type} {l : List α} (h : l.length = 0) : l = [] := by cases l with
  | nil => rfl
  | cons a r => simp at h
section
variable {P : Program} {w : World} {r : Reach} {base : Nat} {t : TypeId} {v : Value}
theorem okw_struct {fs : Array Field} {ts : List TypeId} (ht : P.underlying t = some (.struct fs)) (hts : P.cellTypes P.depth t = some ts) (h : Value.okWide P w r base t v) :
    ∃ l : List Value, v = .agg l.toArray ∧ l.length = P.cellsOf t ∧ ∀ i x, l[i]? = some x → ∃ u, ts[i % ts.length]? = some u ∧ Cell.okWide P w r base u x := by
  simp only [Value.okWide, ht] at h
  obtain ⟨cs, h1, h2, ts', h3, _, h5⟩ := h
  rw [hts] at h3
  obtain rfl := Option.some.inj h3
  exact ⟨cs.toList, by rw [h1], by rw [← h2]; simp, fun i x hx => h5 i x (by simpa using hx)⟩
theorem okw_array {n : Nat} {e : TypeId} {ts : List TypeId} (ht : P.underlying t = some (.array n e)) (hts : P.cellTypes P.depth t = some ts) (h : Value.okWide P w r base t v) :
    ∃ l : List Value, v = .agg l.toArray ∧ l.length = P.cellsOf t ∧ ∀ i x, l[i]? = some x → ∃ u, ts[i % ts.length]? = some u ∧ Cell.okWide P w r base u x := by
  simp only [Value.okWide, ht] at h
  obtain ⟨cs, h1, h2, ts', h3, _, h5⟩ := h
  rw [hts] at h3
  obtain rfl := Option.some.inj h3
  exact ⟨cs.toList, by rw [h1], by rw [← h2]; simp, fun i x hx => h5 i x (by simpa using hx)⟩
theorem okc_int {k : IntKind} {u : TypeId} {x : Value} (ht : P.underlying u = some (.int k)) (h : Cell.okWide P w r base u x) : ∃ n, x = .int k n ∧ k.min ≤ n ∧ n ≤ k.max := by
  simp only [Cell.okWide, ht, Cell.ok] at h
  cases x <;> simp_all [IntKind.has]
theorem okc_float {k : FloatKind} {u : TypeId} {x : Value} (ht : P.underlying u = some (.float k)) (h : Cell.okWide P w r base u x) : ∃ n, x = .float k n ∧ k.has n := by
  simp only [Cell.okWide, ht, Cell.ok] at h
  cases x <;> simp_all
theorem okc_bool {u : TypeId} {x : Value} (ht : P.underlying u = some .bool) (h : Cell.okWide P w r base u x) : ∃ b, x = .bool b := by
  simp only [Cell.okWide, ht, Cell.ok] at h
  cases x <;> simp_all
end
end Go.Proofs.Ytmgfnejiienghaa
