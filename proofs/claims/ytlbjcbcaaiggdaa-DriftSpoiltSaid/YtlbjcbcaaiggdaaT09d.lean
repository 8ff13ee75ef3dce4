/- Chapter 9: a byte of a slot that is another one, plainly. -/
import Derived.Test.YtlbjcbcaaiggdaaT09c
namespace Go.Proofs.Ytlbjcbcaaiggdaa
open Go Go.RowKit Ev
set_option linter.unusedVariables false
set_option linter.unusedSimpArgs false
set_option maxRecDepth 100000

abbrev rgQ : List (Int × Int) := [i64R9, i64R9, byR9, byR9, (0, 31)]
abbrev nmQ : List (IE × IE) := [(seqE (.lit 1) (.var 0), .lit 1), (freqE (.lit 1) (.var 0), .var 0), (seqE (.lit 2) (.var 1), .lit 2), (freqE (.lit 2) (.var 1), .var 1), (.ar .rem .i64 (.var 2) (.lit 32), .var 4)]
def spB (s f : IE) (i : Nat) : List IE := (pB s f).set i (.ar .xor .u8 ((pB s f).getD i (.lit 0)) (.var 3))
def spS (s f : IE) (i : Nat) : IE := if Nat.ble 1 i && Nat.ble i 4 then catE .u32 (((spB s f i).drop 1).take 4) else s
def spF (s f : IE) (i : Nat) : IE := if Nat.ble 5 i && Nat.ble i 12 then .wr .i64 (catE .u64 (((spB s f i).drop 5).take 8)) else f
def spE (s f : IE) (i : Nat) : BE := eqBs (pB (spS s f i) (spF s f i)) (spB s f i)
def nbQ : List (BE × Nat) := (List.range 16).map (fun i => (spE (.lit 1) (.var 0) i, 0)) ++ (List.range 16).map (fun i => (spE (.lit 2) (.var 1) i, 0))
theorem xor_u8 {p b : Int} (hp : Byt p) (hb : 0 < b ∧ b ≤ 255) : Byt (arI .xor .u8 p b) ∧ arI .xor .u8 p b ≠ p := by
  have e : arI .xor .u8 p b = (((BitVec.ofInt 8 p ^^^ BitVec.ofInt 8 b).toNat : Nat) : Int) := by
    show IntKind.u8.wrap (((BitVec.ofInt 8 p ^^^ BitVec.ofInt 8 b).toNat : Nat) : Int) = _
    have := (BitVec.ofInt 8 p ^^^ BitVec.ofInt 8 b).isLt
    rw [IntKind.wrap_u8]; omega
  rw [e]
  have hlt := (BitVec.ofInt 8 p ^^^ BitVec.ofInt 8 b).isLt
  refine ⟨⟨by omega, by omega⟩, fun h => ?_⟩
  have h1 : (BitVec.ofInt 8 p).toNat = p.toNat := by rw [BitVec.toNat_ofInt]; unfold Byt at hp; omega
  have h2 : (BitVec.ofInt 8 p ^^^ BitVec.ofInt 8 b).toNat = (BitVec.ofInt 8 p).toNat := by rw [h1]; omega
  have h3 : BitVec.ofInt 8 p ^^^ BitVec.ofInt 8 b = BitVec.ofInt 8 p := BitVec.eq_of_toNat_eq h2
  have h4 : BitVec.ofInt 8 b = 0#8 := by
    have := congrArg (fun x => BitVec.ofInt 8 p ^^^ x) h3
    simp only [← BitVec.xor_assoc, BitVec.xor_self, BitVec.zero_xor] at this
    exact this
  have h5 : (BitVec.ofInt 8 b).toNat = 0 := by rw [h4]; rfl
  rw [BitVec.toNat_ofInt] at h5
  omega
theorem pk_sum (s f : Int) : pkI s f 13 = (pkI s f 1 + pkI s f 2 + pkI s f 3 + pkI s f 4 + pkI s f 5 + pkI s f 6 + pkI s f 7 + pkI s f 8 + pkI s f 9 + pkI s f 10 + pkI s f 11 + pkI s f 12) % 256 := by
  have add8 : ∀ x y : Int, arI .add .u8 x y = (x + y) % 256 := fun x y => IntKind.wrap_u8 _
  show arI .add .u8 (arI .add .u8 (arI .add .u8 (arI .add .u8 (arI .add .u8 (arI .add .u8 (arI .add .u8 (arI .add .u8 (arI .add .u8 (arI .add .u8 (arI .add .u8 (0 + pkI s f 1) (pkI s f 2)) (pkI s f 3)) (pkI s f 4)) (pkI s f 5)) (pkI s f 6)) (pkI s f 7)) (pkI s f 8)) (pkI s f 9)) (pkI s f 10)) (pkI s f 11)) (pkI s f 12) = _
  simp only [add8, Int.emod_add_emod, Int.zero_add]
theorem ap_sum {ρ : Env} (ha : PkA ρ) (a b : Int) : ρ.a 0 a b 13 = (ρ.a 0 a b 1 + ρ.a 0 a b 2 + ρ.a 0 a b 3 + ρ.a 0 a b 4 + ρ.a 0 a b 5 + ρ.a 0 a b 6 + ρ.a 0 a b 7 + ρ.a 0 a b 8 + ρ.a 0 a b 9 + ρ.a 0 a b 10 + ρ.a 0 a b 11 + ρ.a 0 a b 12) % 256 := by
  rw [ha, ha, ha, ha, ha, ha, ha, ha, ha, ha, ha, ha, ha]
  show pkI a b 13 % 256 = (pkI a b 1 % 256 + pkI a b 2 % 256 + pkI a b 3 % 256 + pkI a b 4 % 256 + pkI a b 5 % 256 + pkI a b 6 % 256 + pkI a b 7 % 256 + pkI a b 8 % 256 + pkI a b 9 % 256 + pkI a b 10 % 256 + pkI a b 11 % 256 + pkI a b 12 % 256) % 256
  rw [pk_sum]
  omega
theorem spE_false {ρ : Env} (ha : PkA ρ) (hb : 0 < ρ.i 3 ∧ ρ.i 3 ≤ 255) (s f : IE) : ∀ i, i < 16 → (spE s f i).den ρ = false := by
  intro i hi
  have hlen : (pB (spS s f i) (spF s f i)).length = (spB s f i).length := by unfold spB; rw [List.length_set]; rfl
  unfold spE
  rw [eqBs_all hlen]
  apply decide_eq_false
  intro h
  have s1 := ap_sum ha ((spS s f i).den ρ) ((spF s f i).den ρ)
  have s2 := ap_sum ha (s.den ρ) (f.den ρ)
  have by1 : ∀ j : Int, Byt (ρ.a 0 (s.den ρ) (f.den ρ) j) := fun j => by rw [ha]; exact ⟨by omega, by omega⟩
  rcases i with _ | i
  · simp only [pB, spB, List.set_cons_zero, List.set_cons_succ, List.getD_cons_zero, List.getD_cons_succ, List.map_cons, List.map_nil, List.cons.injEq, IE.den] at h
    obtain ⟨h0, h1, h2, h3, h4, h5, h6, h7, h8, h9, h10, h11, h12, h13, h14, h15, _⟩ := h
    exact (xor_u8 (p := 1) (by decide) hb).2 h0.symm
  rcases i with _ | i
  · simp only [pB, spB, List.set_cons_zero, List.set_cons_succ, List.getD_cons_zero, List.getD_cons_succ, List.map_cons, List.map_nil, List.cons.injEq, IE.den] at h
    obtain ⟨h0, h1, h2, h3, h4, h5, h6, h7, h8, h9, h10, h11, h12, h13, h14, h15, _⟩ := h
    have x1 := xor_u8 (by1 1) hb
    have y1 := by1 1
    rw [h1, h2, h3, h4, h5, h6, h7, h8, h9, h10, h11, h12, h13] at s1
    clear h0 h14
    omega
  rcases i with _ | i
  · simp only [pB, spB, List.set_cons_zero, List.set_cons_succ, List.getD_cons_zero, List.getD_cons_succ, List.map_cons, List.map_nil, List.cons.injEq, IE.den] at h
    obtain ⟨h0, h1, h2, h3, h4, h5, h6, h7, h8, h9, h10, h11, h12, h13, h14, h15, _⟩ := h
    have x1 := xor_u8 (by1 2) hb
    have y1 := by1 2
    rw [h1, h2, h3, h4, h5, h6, h7, h8, h9, h10, h11, h12, h13] at s1
    clear h0 h14
    omega
  rcases i with _ | i
  · simp only [pB, spB, List.set_cons_zero, List.set_cons_succ, List.getD_cons_zero, List.getD_cons_succ, List.map_cons, List.map_nil, List.cons.injEq, IE.den] at h
    obtain ⟨h0, h1, h2, h3, h4, h5, h6, h7, h8, h9, h10, h11, h12, h13, h14, h15, _⟩ := h
    have x1 := xor_u8 (by1 3) hb
    have y1 := by1 3
    rw [h1, h2, h3, h4, h5, h6, h7, h8, h9, h10, h11, h12, h13] at s1
    clear h0 h14
    omega
  rcases i with _ | i
  · simp only [pB, spB, List.set_cons_zero, List.set_cons_succ, List.getD_cons_zero, List.getD_cons_succ, List.map_cons, List.map_nil, List.cons.injEq, IE.den] at h
    obtain ⟨h0, h1, h2, h3, h4, h5, h6, h7, h8, h9, h10, h11, h12, h13, h14, h15, _⟩ := h
    have x1 := xor_u8 (by1 4) hb
    have y1 := by1 4
    rw [h1, h2, h3, h4, h5, h6, h7, h8, h9, h10, h11, h12, h13] at s1
    clear h0 h14
    omega
  rcases i with _ | i
  · simp only [pB, spB, List.set_cons_zero, List.set_cons_succ, List.getD_cons_zero, List.getD_cons_succ, List.map_cons, List.map_nil, List.cons.injEq, IE.den] at h
    obtain ⟨h0, h1, h2, h3, h4, h5, h6, h7, h8, h9, h10, h11, h12, h13, h14, h15, _⟩ := h
    have x1 := xor_u8 (by1 5) hb
    have y1 := by1 5
    rw [h1, h2, h3, h4, h5, h6, h7, h8, h9, h10, h11, h12, h13] at s1
    clear h0 h14
    omega
  rcases i with _ | i
  · simp only [pB, spB, List.set_cons_zero, List.set_cons_succ, List.getD_cons_zero, List.getD_cons_succ, List.map_cons, List.map_nil, List.cons.injEq, IE.den] at h
    obtain ⟨h0, h1, h2, h3, h4, h5, h6, h7, h8, h9, h10, h11, h12, h13, h14, h15, _⟩ := h
    have x1 := xor_u8 (by1 6) hb
    have y1 := by1 6
    rw [h1, h2, h3, h4, h5, h6, h7, h8, h9, h10, h11, h12, h13] at s1
    clear h0 h14
    omega
  rcases i with _ | i
  · simp only [pB, spB, List.set_cons_zero, List.set_cons_succ, List.getD_cons_zero, List.getD_cons_succ, List.map_cons, List.map_nil, List.cons.injEq, IE.den] at h
    obtain ⟨h0, h1, h2, h3, h4, h5, h6, h7, h8, h9, h10, h11, h12, h13, h14, h15, _⟩ := h
    have x1 := xor_u8 (by1 7) hb
    have y1 := by1 7
    rw [h1, h2, h3, h4, h5, h6, h7, h8, h9, h10, h11, h12, h13] at s1
    clear h0 h14
    omega
  rcases i with _ | i
  · simp only [pB, spB, List.set_cons_zero, List.set_cons_succ, List.getD_cons_zero, List.getD_cons_succ, List.map_cons, List.map_nil, List.cons.injEq, IE.den] at h
    obtain ⟨h0, h1, h2, h3, h4, h5, h6, h7, h8, h9, h10, h11, h12, h13, h14, h15, _⟩ := h
    have x1 := xor_u8 (by1 8) hb
    have y1 := by1 8
    rw [h1, h2, h3, h4, h5, h6, h7, h8, h9, h10, h11, h12, h13] at s1
    clear h0 h14
    omega
  rcases i with _ | i
  · simp only [pB, spB, List.set_cons_zero, List.set_cons_succ, List.getD_cons_zero, List.getD_cons_succ, List.map_cons, List.map_nil, List.cons.injEq, IE.den] at h
    obtain ⟨h0, h1, h2, h3, h4, h5, h6, h7, h8, h9, h10, h11, h12, h13, h14, h15, _⟩ := h
    have x1 := xor_u8 (by1 9) hb
    have y1 := by1 9
    rw [h1, h2, h3, h4, h5, h6, h7, h8, h9, h10, h11, h12, h13] at s1
    clear h0 h14
    omega
  rcases i with _ | i
  · simp only [pB, spB, List.set_cons_zero, List.set_cons_succ, List.getD_cons_zero, List.getD_cons_succ, List.map_cons, List.map_nil, List.cons.injEq, IE.den] at h
    obtain ⟨h0, h1, h2, h3, h4, h5, h6, h7, h8, h9, h10, h11, h12, h13, h14, h15, _⟩ := h
    have x1 := xor_u8 (by1 10) hb
    have y1 := by1 10
    rw [h1, h2, h3, h4, h5, h6, h7, h8, h9, h10, h11, h12, h13] at s1
    clear h0 h14
    omega
  rcases i with _ | i
  · simp only [pB, spB, List.set_cons_zero, List.set_cons_succ, List.getD_cons_zero, List.getD_cons_succ, List.map_cons, List.map_nil, List.cons.injEq, IE.den] at h
    obtain ⟨h0, h1, h2, h3, h4, h5, h6, h7, h8, h9, h10, h11, h12, h13, h14, h15, _⟩ := h
    have x1 := xor_u8 (by1 11) hb
    have y1 := by1 11
    rw [h1, h2, h3, h4, h5, h6, h7, h8, h9, h10, h11, h12, h13] at s1
    clear h0 h14
    omega
  rcases i with _ | i
  · simp only [pB, spB, List.set_cons_zero, List.set_cons_succ, List.getD_cons_zero, List.getD_cons_succ, List.map_cons, List.map_nil, List.cons.injEq, IE.den] at h
    obtain ⟨h0, h1, h2, h3, h4, h5, h6, h7, h8, h9, h10, h11, h12, h13, h14, h15, _⟩ := h
    have x1 := xor_u8 (by1 12) hb
    have y1 := by1 12
    rw [h1, h2, h3, h4, h5, h6, h7, h8, h9, h10, h11, h12, h13] at s1
    clear h0 h14
    omega
  rcases i with _ | i
  · simp only [pB, spB, List.set_cons_zero, List.set_cons_succ, List.getD_cons_zero, List.getD_cons_succ, List.map_cons, List.map_nil, List.cons.injEq, IE.den] at h
    obtain ⟨h0, h1, h2, h3, h4, h5, h6, h7, h8, h9, h10, h11, h12, h13, h14, h15, _⟩ := h
    exact (xor_u8 (by1 13) hb).2 h13.symm
  rcases i with _ | i
  · simp only [pB, spB, List.set_cons_zero, List.set_cons_succ, List.getD_cons_zero, List.getD_cons_succ, List.map_cons, List.map_nil, List.cons.injEq, IE.den] at h
    obtain ⟨h0, h1, h2, h3, h4, h5, h6, h7, h8, h9, h10, h11, h12, h13, h14, h15, _⟩ := h
    exact (xor_u8 (by1 14) hb).2 h14.symm
  rcases i with _ | i
  · simp only [pB, spB, List.set_cons_zero, List.set_cons_succ, List.getD_cons_zero, List.getD_cons_succ, List.map_cons, List.map_nil, List.cons.injEq, IE.den] at h
    obtain ⟨h0, h1, h2, h3, h4, h5, h6, h7, h8, h9, h10, h11, h12, h13, h14, h15, _⟩ := h
    exact (xor_u8 (p := 0) (by decide) hb).2 h15.symm
  omega
theorem nbQ_ok {ρ : Env} (ha : PkA ρ) (hb : 0 < ρ.i 3 ∧ ρ.i 3 ≤ 255) (h0 : ρ.b 0 = false) : ∀ p ∈ nbQ, p.1.den ρ = ρ.b p.2 := by
  intro p hp
  unfold nbQ at hp
  rcases List.mem_append.1 hp with hp | hp
  · obtain ⟨i, hi, rfl⟩ := List.mem_map.1 hp
    exact (spE_false ha hb _ _ i (List.mem_range.1 hi)).trans h0.symm
  · obtain ⟨i, hi, rfl⟩ := List.mem_map.1 hp
    exact (spE_false ha hb _ _ i (List.mem_range.1 hi)).trans h0.symm
abbrev spArgs : List SV := [.int .i64 (.var 0), .int .i64 (.var 1), .int .u8 (.var 2), .int .u8 (.var 3)]
def spL (i : Nat) : SV := if Nat.blt i 16 then .bool (.cmp .eql (.var 1) (.var 1)) else .bool (.cmp .eql (.var 0) (.var 0))
end Go.Proofs.Ytlbjcbcaaiggdaa
