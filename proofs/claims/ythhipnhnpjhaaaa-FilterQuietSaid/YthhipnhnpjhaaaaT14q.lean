/- Law 14: FilterQuiet. -/
import Derived.Test.YthhipnhnpjhaaaaT14q0
import Derived.Test.YthhipnhnpjhaaaaT14q1
namespace Go.Proofs.Ythhipnhnpjhaaaa
open Go Go.RowKit Ev
set_option linter.unusedVariables false
set_option linter.unusedSimpArgs false
set_option maxRecDepth 100000
set_option maxHeartbeats 0
theorem fq_ok : fqT.Ok Try.prog (fqC []) 3000 5 fqA := ⟨⟨trivial, ⟨fq_p1, rfl⟩⟩, ⟨⟨fq_p2, rfl⟩, ⟨⟨fq_p3, rfl⟩, ⟨⟨fq_p4, rfl⟩, ⟨⟨fq_p5, rfl⟩, ⟨⟨fq_p6, rfl⟩, ⟨⟨fq_p7, rfl⟩, ⟨⟨fq_p8, rfl⟩, ⟨⟨fq_p9, rfl⟩, ⟨⟨fq_p10, rfl⟩, ⟨⟨fq_p11, rfl⟩, ⟨⟨fq_p12, rfl⟩, trivial⟩⟩⟩⟩⟩⟩⟩⟩⟩⟩⟩⟩
theorem filterQuiet_walk (off dl dp mn : Int) (h0 : -2147483648 ≤ off ∧ off ≤ 2147483647) (h1 : 0 ≤ dl ∧ dl ≤ 65535) (h2 : 0 ≤ dp ∧ dp ≤ 65535) (h3 : 0 ≤ mn ∧ mn ≤ 255) (w : World) :
    Calls Try.prog 5 #[.int .i32 off, .int .u16 dl, .int .u16 dp, .int .u8 mn] w fun e w' => e = .returned (.bool true) ∧ Below w.heap.size w w' := by
  have hn : 1 ≤ 1 + mn % 12 ∧ 1 + mn % 12 ≤ 12 := by omega
  have er : mn.tmod 12 = mn % 12 := Int.tmod_eq_emod_of_nonneg h3.1
  refine law_cs (ρ := envOf [off, dl, dp, mn, 1 + mn % 12] (ap := apN)) (rg := fqR) (ar := arN) (args := fqA) ⟨h0, h1, h2, h3, hn, trivial⟩ (arIn_N rfl) (cs := consN.map (conNm fqN)) (consNm_ok (fun p hp => ?_) (consN_ok (numA_N rfl))) (cr := k14) k14_ok LpOk.none (xs := []) (fun _ _ h => by cases h) (nm := fqX) (fun p hp => ?_) (nz := false) fqT fq_ok ?_ w (ExtIn.none fun _ => rfl)
  · simp only [fqN, List.mem_cons, List.not_mem_nil, or_false] at hp
    rcases hp with rfl | rfl | rfl
    · show sat (off - 0) = off
      unfold sat; omega
    · show sat (off - off) = 0
      unfold sat; omega
    · show sat (dp + 0) = dp
      unfold sat; omega
  · simp only [fqX, List.mem_cons, List.not_mem_nil, or_false] at hp
    subst hp
    show 1 + mn.tmod 12 = 1 + mn % 12
    rw [er]
  · have hc : 1 + mn % 12 = 1 ∨ 1 + mn % 12 = 2 ∨ 1 + mn % 12 = 3 ∨ 1 + mn % 12 = 4 ∨ 1 + mn % 12 = 5 ∨ 1 + mn % 12 = 6 ∨ 1 + mn % 12 = 7 ∨ 1 + mn % 12 = 8 ∨ 1 + mn % 12 = 9 ∨ 1 + mn % 12 = 10 ∨ 1 + mn % 12 = 11 ∨ 1 + mn % 12 = 12 := by omega
    rcases hc with h | h | h | h | h | h | h | h | h | h | h | h
    · exact fq_g1 rfl h2 h
    · exact fq_g2 rfl h2 h
    · exact fq_g3 rfl h2 h
    · exact fq_g4 rfl h2 h
    · exact fq_g5 rfl h2 h
    · exact fq_g6 rfl h2 h
    · exact fq_g7 rfl h2 h
    · exact fq_g8 rfl h2 h
    · exact fq_g9 rfl h2 h
    · exact fq_g10 rfl h2 h
    · exact fq_g11 rfl h2 h
    · exact fq_g12 rfl h2 h
end Go.Proofs.Ythhipnhnpjhaaaa
