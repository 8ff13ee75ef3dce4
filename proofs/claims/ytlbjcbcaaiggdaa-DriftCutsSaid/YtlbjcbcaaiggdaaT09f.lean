/- Chapter 9: environments with the law's string and slice; rounds that leave bytes. -/
import Derived.Test.YtlbjcbcaaiggdaaT09c
import Derived.Test.YtlbjcbcaaiggdaaEvX
namespace Go.Proofs.Ytlbjcbcaaiggdaa
open Go Go.RowKit Ev
set_option linter.unusedVariables false
set_option linter.unusedSimpArgs false
set_option maxRecDepth 100000

abbrev arT : List (Int × Int) := arD0 ++ [i64R9]
theorem arT_ok {S : ByteArray} {dr : Int → Int} (hr : ∀ a, -9223372036854775808 ≤ dr a ∧ dr a ≤ 9223372036854775807) {ρ : Env} (ha : ρ.a = apD S [dr]) : ∀ (f : Nat) v, arT[f]? = some v → ∀ a b c, v.1 ≤ ρ.a f a b c ∧ ρ.a f a b c ≤ v.2 := by
  rw [ha]
  refine arD_ok (fun i v h a => ?_)
  rcases i with _ | i <;> simp at h
  subst h
  exact hr a
theorem xok9 {W : World} {v : Value} {B : Ext} {dr : Int → Int} {S : ByteArray} (h : XAny [.int .i64] W v B [dr]) {ρ : Env} (ha : ρ.a = apD S [dr]) {n : Nat} (hn : ρ.i n = B.len) : XOk ρ ⟨n, 20, [.int .i64]⟩ (some B) := by
  refine ⟨hn, h.sz, h.emp, fun i c k hi hk => ?_⟩
  rw [h.cells i c k hi hk]
  rcases c with _ | c <;> simp at hk
  subst hk
  simp only [ekV, cellV, ha]
  rfl
theorem xs9 {ρ : Env} {d : XD} {o : Option Ext} (h : XOk ρ d o) (hx : ρ.x 0 = o) : ∀ (j : Nat) d', [d][j]? = some d' → XOk ρ d' (ρ.x j) := by
  intro j d' hj
  have h0 := (List.getElem?_eq_some_iff.1 hj).1
  obtain rfl : j = 0 := by simp at h0; exact h0
  simp at hj
  subst hj
  rw [hx]
  exact h
theorem ext9 {W : World} {v : Value} {B : Ext} {dr : Int → Int} (h : XAny [.int .i64] W v B [dr]) {ρ : Env} (hx : ρ.x = fun n => [some B].getD n none) : ExtIn ρ W := ext_any h hx
theorem sok9 {S : ByteArray} {rows : List (Int → Int)} {ρ : Env} (ha : ρ.a = apD S rows) (hs : ρ.s 0 = S) {n : Nat} (hn : ρ.i n = S.size) : ∀ (j : Nat) d, [(⟨n, 1⟩ : SD)][j]? = some d → SOk ρ d (ρ.s j) := by
  intro j d hj
  have h0 := (List.getElem?_eq_some_iff.1 hj).1
  obtain rfl : j = 0 := by simp at h0; exact h0
  simp at hj
  subst hj
  rw [hs]
  refine ⟨hn, fun i x h0 h1 => ?_⟩
  rw [ha]
  show mixI S i x = _
  unfold mixI
  rw [Int.toNat_natCast]
  split
  · rfl
  · omega
/-- an expression that is a byte -/
def byteE (lo : Nat) : IE → Bool
  | .lit (.ofNat k) => Nat.ble k 255
  | .var j => Nat.ble lo j && Nat.blt j (lo + 32)
  | .ap 0 _ _ _ => true
  | _ => false
/-- a round that goes on leaves the law's variables as they are, 32 bytes, and the counter one more -/
def shapeE (m : Nat) (es : List IE) : Bool := IE.beqL (es.take m) ((List.range m).map .var) && Nat.beq es.length (m + 33) && ((es.drop m).take 32).all (byteE m) && IE.beqL (es.drop (m + 32)) [.pl .add (.var (m + 32)) (.lit 1)]
def shapeT (m k : Nat) : RT → Bool
  | .go es bs => shapeE m es && Nat.beq bs.length k && (bs.zipIdx.all fun p => p.1.beq (.var p.2))
  | .node _ t e => shapeT m k t && shapeT m k e
  | _ => true
theorem byteE_ok {ρ : Env} (ha : PkA ρ) {lo : Nat} (hv : ∀ j, lo ≤ j → j < lo + 32 → Byt (ρ.i j)) {e : IE} (h : byteE lo e = true) : Byt (e.den ρ) := by
  unfold byteE at h
  split at h
  · rename_i k
    have := Nat.le_of_ble_eq_true h
    exact ⟨by show (0 : Int) ≤ (k : Int); omega, by show (k : Int) ≤ 255; omega⟩
  · simp only [Bool.and_eq_true] at h
    have h1 := Nat.le_of_ble_eq_true h.1
    have h2 := h.2
    rw [Nat.blt_eq] at h2
    exact hv _ h1 h2
  · show Byt (ρ.a 0 _ _ _)
    rw [ha]
    exact ⟨by omega, by omega⟩
  · cases h
/-- what the 32 bytes are behind the round -/
def bytesOf (ρ : Env) (m : Nat) (T : RT) : List Int :=
  match T.next ρ with
  | some (is, _) => (is.drop m).take 32
  | none => []
theorem shape_ok {ρ : Env} (ha : PkA ρ) {m k : Nat} (hv : ∀ j, m ≤ j → j < m + 32 → Byt (ρ.i j)) : ∀ {T : RT}, shapeT m k T = true → ∀ {is bs}, T.next ρ = some (is, bs) →
    is = (List.range m).map ρ.i ++ (is.drop m).take 32 ++ [ρ.i (m + 32) + 1] ∧ ((is.drop m).take 32).length = 32 ∧ (∀ x ∈ (is.drop m).take 32, Byt x) ∧ bs = (List.range k).map ρ.b
  | .dead, h, is, bs, hn => by cases hn
  | .stop _ _, h, is, bs, hn => by cases hn
  | .go es bs0, h, is, bs, hn => by
    simp only [RT.next, Option.some.injEq, Prod.mk.injEq] at hn
    obtain ⟨rfl, rfl⟩ := hn
    simp only [shapeT, shapeE, Bool.and_eq_true, Nat.beq_eq] at h
    obtain ⟨⟨⟨⟨⟨h1, h2⟩, h3⟩, h4⟩, h5⟩, h6⟩ := h
    have e1 := IE.beqL_eq h1
    have e4 := IE.beqL_eq h4
    have split3 : es = es.take m ++ (es.drop m).take 32 ++ es.drop (m + 32) := by
      rw [List.append_assoc, ← List.drop_drop, List.take_append_drop, List.take_append_drop]
    have ed : ((dens ρ es).drop m).take 32 = ((es.drop m).take 32).map (IE.den ρ) := by unfold dens; rw [← List.map_drop, ← List.map_take]
    refine ⟨?_, ?_, ?_, ?_⟩
    · rw [ed]
      have : dens ρ es = (es.take m).map (IE.den ρ) ++ ((es.drop m).take 32).map (IE.den ρ) ++ (es.drop (m + 32)).map (IE.den ρ) := by
        unfold dens
        rw [← List.map_append, ← List.map_append, ← split3]
      rw [this, e1, e4, List.map_map]
      rfl
    · rw [ed]; simp; omega
    · rw [ed]
      intro x hx
      obtain ⟨e, he, rfl⟩ := List.mem_map.1 hx
      exact byteE_ok ha hv (List.all_eq_true.1 h3 e he)
    · apply List.ext_getElem
      · simp [bdens, h5]
      · intro i h7 h8
        have hi : i < bs0.length := by simpa [bdens] using h7
        rw [List.all_eq_true] at h6
        have := h6 (bs0[i], i) (by
          rw [List.mem_zipIdx_iff_getElem?]
          exact List.getElem?_eq_getElem hi)
        have hb := BE.beq_eq this
        simp only [bdens, List.getElem_map, List.getElem_range]
        rw [show bs0[i] = BE.var i from hb]
        rfl
  | .node c t e, h, is, bs, hn => by
    simp only [shapeT, Bool.and_eq_true] at h
    simp only [RT.next] at hn
    cases hc : c.den ρ with
    | true => rw [hc] at hn; exact shape_ok ha hv h.1 hn
    | false => rw [hc] at hn; exact shape_ok ha hv h.2 hn
end Go.Proofs.Ytlbjcbcaaiggdaa
