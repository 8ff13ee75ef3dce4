/- Law 19: LoopStates. -/
import Derived.Test.YthhipnhnpjhaaaaT19u
namespace Go.Proofs.Ythhipnhnpjhaaaa
open Go Go.RowKit Ev
set_option linter.unusedVariables false
set_option linter.unusedSimpArgs false
set_option maxRecDepth 100000

abbrev lsR : List (Int × Int) := [i64R, i64R, i64R, i64R, i64R, i64R, i64R, (0, 65535), (0, 255), (0, 4), i64R, i64R, i64R, i64R, i64R, i64R, (0, 2), i64R, (0, 190)]
abbrev lsA (k : Int) : List SV := [.agg [.int .i64 (.lit k), .int .i64 (.var 0), .int .i64 (.var 1), .int .i64 (.var 2), .int .i64 (.var 3), .int .i64 (.var 4), .int .i64 (.var 5)], .int .i64 (.var 6), .int .u16 (.var 7), .int .u8 (.var 8)]
abbrev lsD (k : Int) : SV := .agg [.int .i64 (.lit k), .int .i64 (.lit 0), .int .i64 (.var 1), .int .i64 (.var 2), .int .i64 (.var 3), .int .i64 (.var 4), .int .i64 (.var 5)]
abbrev lsU : SV := .tuple [.agg [.int .i64 (.var 9), .int .i64 (.var 10), .int .i64 (.var 11), .int .i64 (.var 12), .int .i64 (.var 13), .int .i64 (.var 14), .int .i64 (.var 15)], .int .i64 (.var 16), .int .i64 (.var 17), .int .i64 (.var 18)]
abbrev lsK (k : Int) : List (FuncId × List SV × SV) := k19 ++ [(22, [stdS, lsD k, .int .i64 (.var 6), .int .i64 (.pl .mul (.var 7) (.lit 4294967296)), .int .i64 (.var 8)], lsU)]
theorem abs_far (o : Int) (ho : InI o) : (536870912 < apN 11 o 0 0 ↔ (536870912 < o ∨ o < -536870912)) := by
  have e : apN 11 o 0 0 = sat (nAbs o) := rfl
  rw [e]
  unfold nAbs
  have := ho.1
  have := ho.2
  split <;> (unfold sat; omega)
theorem gone_is (g : Int) (hg : 0 ≤ g ∧ g ≤ 65535) : mxI (apN 2 (g * 4294967296) 0 0) 0 = g * 4294967296 := by
  have e : apN 2 (g * 4294967296) 0 0 = sat (g * 4294967296 - 0) := rfl
  rw [e]
  unfold mxI sat; split <;> omega
theorem smI_in (a b : Int) : 0 ≤ smI a b ∧ smI a b ≤ 9223372036854775807 := arN_ok 9 _ rfl _ _ _
theorem holdI_in (f : Int) : -2147483 ≤ holdI f ∧ holdI f ≤ 2147483 := by
  have e : holdI f = sat (fClamp f (-2147483) 2147483) := rfl
  rw [e]
  unfold fClamp
  split
  · unfold sat; omega
  · split <;> (unfold sat; omega)
theorem upd_in (d : Dsc) (h : d.ok) (off at' p : Int) (ho : InI off) (ha : InI at') : (d.upd off at' p).d.ok ∧ (0 ≤ (d.upd off at' p).k ∧ (d.upd off at' p).k ≤ 2) ∧ InI (d.upd off at' p).b ∧ (0 ≤ (d.upd off at' p).e ∧ (d.upd off at' p).e ≤ 190) := by
  have z : InI 0 := by decide
  have hs : ∀ x y : Int, InI (smI x y) := fun x y => ⟨by have := smI_in x y; omega, (smI_in x y).2⟩
  have hh : ∀ x : Int, InI (holdI x) := fun x => ⟨by have := holdI_in x; omega, by have := holdI_in x; omega⟩
  unfold Dsc.upd
  split
  · exact ⟨h, by dsimp only; omega, z, by dsimp only; omega⟩
  · split
    · split
      · exact ⟨⟨by dsimp only; omega, ha, z, h.f, h.j, h.wa, z⟩, by dsimp only; omega, ho, by dsimp only; omega⟩
      · split
        · exact ⟨⟨by dsimp only; omega, ha, z, h.f, h.j, h.wa, z⟩, by dsimp only; omega, ho, by dsimp only; omega⟩
        · split
          · split
            · exact ⟨h, by dsimp only; omega, z, by dsimp only; omega⟩
            · exact ⟨⟨by dsimp only; omega, ha, z, h.f, h.j, h.wa, z⟩, by dsimp only; omega, ho, by dsimp only; omega⟩
          · exact ⟨⟨by dsimp only; omega, ha, h.o, h.f, h.j, h.wa, h.re⟩, by dsimp only; omega, z, by dsimp only; omega⟩
    · split
      · exact ⟨⟨by dsimp only; omega, ha, ho, h.f, hs _ _, h.wa, ho⟩, by dsimp only; omega, ho, by dsimp only; omega⟩
      · split
        · exact ⟨⟨by dsimp only; omega, ha, ho, h.f, hs _ _, h.wa, ho⟩, by dsimp only; omega, ho, by dsimp only; omega⟩
        · split
          · split
            · exact ⟨h, by dsimp only; omega, z, by dsimp only; omega⟩
            · exact ⟨⟨by dsimp only; omega, ha, ho, hh _, hs _ _, h.wa, ho⟩, by dsimp only; omega, ho, by dsimp only; omega⟩
          · exact ⟨⟨by dsimp only; omega, ha, ho, hh _, hs _ _, hs _ _, ho⟩, by dsimp only; omega, ho, by dsimp only; omega⟩
noncomputable abbrev lsL (k a o2 f j wa re off g p : Int) : List Int := [a, o2, f, j, wa, re, off, g, p] ++ (let u := (⟨k, 0, o2, f, j, wa, re⟩ : Dsc).upd off (g * 4294967296) p; [u.d.s, u.d.a, u.d.o, u.d.f, u.d.j, u.d.wa, u.d.re, u.k, u.b, u.e])
theorem ls_k (k : Int) (hk : 0 ≤ k ∧ k ≤ 4) (T : Tree) (hT : T.Ok Try.prog { pc := [], cr := lsK k ++ crS, rg := lsR, ar := arN, ct := conCt lsR arN consN } 1000 11 (lsA k))
    (a o2 f j wa re off g p : Int) (h0 : InI a) (h1 : InI o2) (h2 : InI f) (h3 : InI j) (h4 : InI wa) (h5 : InI re) (ho : InI off) (hg : 0 ≤ g ∧ g ≤ 65535) (hp : 0 ≤ p ∧ p ≤ 255) (hv : good (envOf (lsL k a o2 f j wa re off g p) (ap := apN)) T = true) (w : World) :
    Calls Try.prog 11 #[.agg #[.int .i64 k, .int .i64 a, .int .i64 o2, .int .i64 f, .int .i64 j, .int .i64 wa, .int .i64 re], .int .i64 off, .int .u16 g, .int .u8 p] w fun e w' => e = .returned (.bool true) ∧ Below w.heap.size w w' := by
  have hd : (⟨k, 0, o2, f, j, wa, re⟩ : Dsc).ok := ⟨hk, by show InI 0; decide, h1, h2, h3, h4, h5⟩
  obtain ⟨u1, u2, u3, u4⟩ := upd_in _ hd off (g * 4294967296) p ho ⟨by omega, by omega⟩
  refine law_good (ρ := envOf (lsL k a o2 f j wa re off g p) (ap := apN)) (rg := lsR) (ar := arN) (args := lsA k) ⟨h0, h1, h2, h3, h4, h5, ho, hg, hp, u1.s, u1.a, u1.o, u1.f, u1.j, u1.wa, u1.re, u2, u3, u4, trivial⟩ (numA_N rfl) (arIn_N rfl) (cr := lsK k) (fun c hc => ?_) LpOk.none (xs := []) (fun j d h => by simp at h) (nm := []) (fun p hp => by cases hp) T hT hv w (ExtIn.none fun _ => rfl)
  rcases List.mem_append.1 hc with hc | hc
  · exact k19_ok c hc
  · rw [List.mem_singleton.1 hc]
    exact fun φ w _ => upd_any _ hd off (g * 4294967296) p ho ⟨by omega, by omega⟩ hp w
def ls0T : Tree :=
(.node (.cmp .eql (.var 18) (.lit 0))
 (.node (.cmp .lss (.lit 536870912) (.var 6))
 (.node (.cmp .eql (.var 9) (.lit 3))
 (.node (.cmp .eql (.var 16) (.lit 0))
 .dead
 (.node (.cmp .eql (.var 17) (.var 6))
 (.node (.cmp .eql (.var 16) (.lit 2))
 (.node (.cmp .eql (.var 15) (.lit 0))
 (.leaf (.bool (.lit true)))
 .dead)
 .dead)
 .dead))
 .dead)
 (.node (.cmp .lss (.var 6) (.lit (-536870912)))
 (.node (.cmp .eql (.var 9) (.lit 3))
 (.node (.cmp .eql (.var 16) (.lit 0))
 .dead
 (.node (.cmp .eql (.var 17) (.var 6))
 (.node (.cmp .eql (.var 16) (.lit 2))
 (.node (.cmp .eql (.var 15) (.lit 0))
 (.leaf (.bool (.lit true)))
 .dead)
 .dead)
 .dead))
 .dead)
 (.node (.cmp .eql (.var 9) (.lit 3))
 (.node (.cmp .eql (.var 16) (.lit 0))
 .dead
 (.node (.cmp .eql (.var 17) (.var 6))
 (.node (.cmp .eql (.var 16) (.lit 2))
 .dead
 (.leaf (.bool (.cmp .eql (.var 15) (.var 6)))))
 .dead))
 .dead)))
 .dead)
theorem ls0_p0 : runFn Try.prog { pc := [((.cmp .eql (.var 15) (.lit 0)), true), ((.cmp .eql (.var 16) (.lit 2)), true), ((.cmp .eql (.var 17) (.var 6)), true), ((.cmp .eql (.var 16) (.lit 0)), false), ((.cmp .eql (.var 9) (.lit 3)), true), ((.cmp .lss (.lit 536870912) (.var 6)), true), ((.cmp .eql (.var 18) (.lit 0)), true)], cr := lsK 0 ++ crS, rg := lsR, ar := arN, ct := conCt lsR arN consN } 1000 11 (lsA 0) = .ok (.bool (.lit true)) := by kernel_rfl
theorem ls0_p1 : runFn Try.prog { pc := [((.cmp .eql (.var 15) (.lit 0)), true), ((.cmp .eql (.var 16) (.lit 2)), true), ((.cmp .eql (.var 17) (.var 6)), true), ((.cmp .eql (.var 16) (.lit 0)), false), ((.cmp .eql (.var 9) (.lit 3)), true), ((.cmp .lss (.var 6) (.lit (-536870912))), true), ((.cmp .lss (.lit 536870912) (.var 6)), false), ((.cmp .eql (.var 18) (.lit 0)), true)], cr := lsK 0 ++ crS, rg := lsR, ar := arN, ct := conCt lsR arN consN } 1000 11 (lsA 0) = .ok (.bool (.lit true)) := by kernel_rfl
theorem ls0_p2 : runFn Try.prog { pc := [((.cmp .eql (.var 16) (.lit 2)), false), ((.cmp .eql (.var 17) (.var 6)), true), ((.cmp .eql (.var 16) (.lit 0)), false), ((.cmp .eql (.var 9) (.lit 3)), true), ((.cmp .lss (.var 6) (.lit (-536870912))), false), ((.cmp .lss (.lit 536870912) (.var 6)), false), ((.cmp .eql (.var 18) (.lit 0)), true)], cr := lsK 0 ++ crS, rg := lsR, ar := arN, ct := conCt lsR arN consN } 1000 11 (lsA 0) = .ok (.bool (.cmp .eql (.var 15) (.var 6))) := by kernel_rfl
theorem ls0_ok : ls0T.Ok Try.prog { pc := [], cr := lsK 0 ++ crS, rg := lsR, ar := arN, ct := conCt lsR arN consN } 1000 11 (lsA 0) := ⟨⟨⟨⟨trivial, ⟨⟨⟨⟨ls0_p0, rfl⟩, trivial⟩, trivial⟩, trivial⟩⟩, trivial⟩, ⟨⟨⟨trivial, ⟨⟨⟨⟨ls0_p1, rfl⟩, trivial⟩, trivial⟩, trivial⟩⟩, trivial⟩, ⟨⟨trivial, ⟨⟨trivial, ⟨ls0_p2, rfl⟩⟩, trivial⟩⟩, trivial⟩⟩⟩, trivial⟩
theorem ls0_good (a o2 f j wa re off g p : Int) (ho : InI off) (hg : 0 ≤ g ∧ g ≤ 65535) : good (envOf (lsL 0 a o2 f j wa re off g p) (ap := apN)) ls0T = true := by
  have hA := abs_far off ho
  have hG := gone_is g hg
  have e : plI .mul g 4294967296 = g * 4294967296 := rfl
  simp only [ls0T, good, BE.den, cmpI, IE.den, lsL, List.cons_append, List.nil_append, List.getD_cons_zero, List.getD_cons_succ, Dsc.upd, hG, e]
  generalize apN 11 off 0 0 = A at *
  by_cases c1 : 4294967296000 < A <;> by_cases c2 : 536870912 < A <;> by_cases c3 : g * 4294967296 < 1288490188800 <;> by_cases d1 : 536870912 < off <;> by_cases d2 : off < -536870912 <;> first | (exfalso; omega) | simp [c1, c2, c3, d1, d2]
def ls1T : Tree :=
(.node (.cmp .eql (.var 18) (.lit 0))
 (.node (.cmp .lss (.lit 536870912) (.var 6))
 (.node (.cmp .eql (.var 9) (.lit 4))
 (.node (.cmp .eql (.var 16) (.lit 0))
 .dead
 (.node (.cmp .eql (.var 17) (.var 6))
 (.node (.cmp .eql (.var 16) (.lit 2))
 (.node (.cmp .eql (.var 15) (.lit 0))
 (.leaf (.bool (.lit true)))
 .dead)
 .dead)
 .dead))
 .dead)
 (.node (.cmp .lss (.var 6) (.lit (-536870912)))
 (.node (.cmp .eql (.var 9) (.lit 4))
 (.node (.cmp .eql (.var 16) (.lit 0))
 .dead
 (.node (.cmp .eql (.var 17) (.var 6))
 (.node (.cmp .eql (.var 16) (.lit 2))
 (.node (.cmp .eql (.var 15) (.lit 0))
 (.leaf (.bool (.lit true)))
 .dead)
 .dead)
 .dead))
 .dead)
 (.node (.cmp .eql (.var 9) (.lit 4))
 (.node (.cmp .eql (.var 16) (.lit 0))
 .dead
 (.node (.cmp .eql (.var 17) (.var 6))
 (.node (.cmp .eql (.var 16) (.lit 2))
 .dead
 (.leaf (.bool (.cmp .eql (.var 15) (.var 6)))))
 .dead))
 .dead)))
 (.node (.cmp .eql (.var 9) (.lit 1))
 (.node (.cmp .eql (.var 10) (.lit 0))
 (.node (.cmp .eql (.var 11) (.var 1))
 (.node (.cmp .eql (.var 12) (.var 2))
 (.node (.cmp .eql (.var 13) (.var 3))
 (.node (.cmp .eql (.var 14) (.var 4))
 (.node (.cmp .eql (.var 15) (.var 5))
 (.node (.cmp .eql (.var 16) (.lit 0))
 (.node (.cmp .eql (.var 17) (.lit 0))
 (.leaf (.bool (.lit true)))
 .dead)
 .dead)
 .dead)
 .dead)
 .dead)
 .dead)
 .dead)
 .dead)
 .dead))
theorem ls1_p0 : runFn Try.prog { pc := [((.cmp .eql (.var 15) (.lit 0)), true), ((.cmp .eql (.var 16) (.lit 2)), true), ((.cmp .eql (.var 17) (.var 6)), true), ((.cmp .eql (.var 16) (.lit 0)), false), ((.cmp .eql (.var 9) (.lit 4)), true), ((.cmp .lss (.lit 536870912) (.var 6)), true), ((.cmp .eql (.var 18) (.lit 0)), true)], cr := lsK 1 ++ crS, rg := lsR, ar := arN, ct := conCt lsR arN consN } 1000 11 (lsA 1) = .ok (.bool (.lit true)) := by kernel_rfl
theorem ls1_p1 : runFn Try.prog { pc := [((.cmp .eql (.var 15) (.lit 0)), true), ((.cmp .eql (.var 16) (.lit 2)), true), ((.cmp .eql (.var 17) (.var 6)), true), ((.cmp .eql (.var 16) (.lit 0)), false), ((.cmp .eql (.var 9) (.lit 4)), true), ((.cmp .lss (.var 6) (.lit (-536870912))), true), ((.cmp .lss (.lit 536870912) (.var 6)), false), ((.cmp .eql (.var 18) (.lit 0)), true)], cr := lsK 1 ++ crS, rg := lsR, ar := arN, ct := conCt lsR arN consN } 1000 11 (lsA 1) = .ok (.bool (.lit true)) := by kernel_rfl
theorem ls1_p2 : runFn Try.prog { pc := [((.cmp .eql (.var 16) (.lit 2)), false), ((.cmp .eql (.var 17) (.var 6)), true), ((.cmp .eql (.var 16) (.lit 0)), false), ((.cmp .eql (.var 9) (.lit 4)), true), ((.cmp .lss (.var 6) (.lit (-536870912))), false), ((.cmp .lss (.lit 536870912) (.var 6)), false), ((.cmp .eql (.var 18) (.lit 0)), true)], cr := lsK 1 ++ crS, rg := lsR, ar := arN, ct := conCt lsR arN consN } 1000 11 (lsA 1) = .ok (.bool (.cmp .eql (.var 15) (.var 6))) := by kernel_rfl
theorem ls1_p3 : runFn Try.prog { pc := [((.cmp .eql (.var 17) (.lit 0)), true), ((.cmp .eql (.var 16) (.lit 0)), true), ((.cmp .eql (.var 15) (.var 5)), true), ((.cmp .eql (.var 14) (.var 4)), true), ((.cmp .eql (.var 13) (.var 3)), true), ((.cmp .eql (.var 12) (.var 2)), true), ((.cmp .eql (.var 11) (.var 1)), true), ((.cmp .eql (.var 10) (.lit 0)), true), ((.cmp .eql (.var 9) (.lit 1)), true), ((.cmp .eql (.var 18) (.lit 0)), false)], cr := lsK 1 ++ crS, rg := lsR, ar := arN, ct := conCt lsR arN consN } 1000 11 (lsA 1) = .ok (.bool (.lit true)) := by kernel_rfl
theorem ls1_ok : ls1T.Ok Try.prog { pc := [], cr := lsK 1 ++ crS, rg := lsR, ar := arN, ct := conCt lsR arN consN } 1000 11 (lsA 1) := ⟨⟨⟨⟨trivial, ⟨⟨⟨⟨ls1_p0, rfl⟩, trivial⟩, trivial⟩, trivial⟩⟩, trivial⟩, ⟨⟨⟨trivial, ⟨⟨⟨⟨ls1_p1, rfl⟩, trivial⟩, trivial⟩, trivial⟩⟩, trivial⟩, ⟨⟨trivial, ⟨⟨trivial, ⟨ls1_p2, rfl⟩⟩, trivial⟩⟩, trivial⟩⟩⟩, ⟨⟨⟨⟨⟨⟨⟨⟨⟨⟨ls1_p3, rfl⟩, trivial⟩, trivial⟩, trivial⟩, trivial⟩, trivial⟩, trivial⟩, trivial⟩, trivial⟩, trivial⟩⟩
theorem ls1_good (a o2 f j wa re off g p : Int) (ho : InI off) (hg : 0 ≤ g ∧ g ≤ 65535) : good (envOf (lsL 1 a o2 f j wa re off g p) (ap := apN)) ls1T = true := by
  have hA := abs_far off ho
  have hG := gone_is g hg
  have e : plI .mul g 4294967296 = g * 4294967296 := rfl
  simp only [ls1T, good, BE.den, cmpI, IE.den, lsL, List.cons_append, List.nil_append, List.getD_cons_zero, List.getD_cons_succ, Dsc.upd, hG, e]
  generalize apN 11 off 0 0 = A at *
  by_cases c1 : 4294967296000 < A <;> by_cases c2 : 536870912 < A <;> by_cases c3 : g * 4294967296 < 1288490188800 <;> by_cases d1 : 536870912 < off <;> by_cases d2 : off < -536870912 <;> first | (exfalso; omega) | simp [c1, c2, c3, d1, d2]
def ls2T : Tree :=
(.node (.cmp .eql (.var 18) (.lit 0))
 (.node (.cmp .lss (.lit 536870912) (.var 6))
 (.node (.cmp .lss (.pl .mul (.var 7) (.lit 4294967296)) (.lit 1288490188800))
 (.node (.cmp .eql (.var 9) (.lit 2))
 (.node (.cmp .eql (.var 16) (.lit 0))
 (.leaf (.bool (.cmp .eql (.var 17) (.lit 0))))
 .dead)
 .dead)
 (.node (.cmp .eql (.var 9) (.lit 4))
 (.node (.cmp .eql (.var 16) (.lit 0))
 .dead
 (.node (.cmp .eql (.var 17) (.var 6))
 (.node (.cmp .eql (.var 16) (.lit 2))
 (.node (.cmp .eql (.var 15) (.lit 0))
 (.leaf (.bool (.lit true)))
 .dead)
 .dead)
 .dead))
 .dead))
 (.node (.cmp .lss (.var 6) (.lit (-536870912)))
 (.node (.cmp .lss (.pl .mul (.var 7) (.lit 4294967296)) (.lit 1288490188800))
 (.node (.cmp .eql (.var 9) (.lit 2))
 (.node (.cmp .eql (.var 16) (.lit 0))
 (.leaf (.bool (.cmp .eql (.var 17) (.lit 0))))
 .dead)
 .dead)
 (.node (.cmp .eql (.var 9) (.lit 4))
 (.node (.cmp .eql (.var 16) (.lit 0))
 .dead
 (.node (.cmp .eql (.var 17) (.var 6))
 (.node (.cmp .eql (.var 16) (.lit 2))
 (.node (.cmp .eql (.var 15) (.lit 0))
 (.leaf (.bool (.lit true)))
 .dead)
 .dead)
 .dead))
 .dead))
 (.node (.cmp .eql (.var 9) (.lit 4))
 (.node (.cmp .eql (.var 16) (.lit 0))
 .dead
 (.node (.cmp .eql (.var 17) (.var 6))
 (.node (.cmp .eql (.var 16) (.lit 2))
 .dead
 (.leaf (.bool (.cmp .eql (.var 15) (.var 6)))))
 .dead))
 .dead)))
 (.node (.cmp .eql (.var 9) (.lit 2))
 (.node (.cmp .eql (.var 10) (.lit 0))
 (.node (.cmp .eql (.var 11) (.var 1))
 (.node (.cmp .eql (.var 12) (.var 2))
 (.node (.cmp .eql (.var 13) (.var 3))
 (.node (.cmp .eql (.var 14) (.var 4))
 (.node (.cmp .eql (.var 15) (.var 5))
 (.node (.cmp .eql (.var 16) (.lit 0))
 (.node (.cmp .eql (.var 17) (.lit 0))
 (.leaf (.bool (.lit true)))
 .dead)
 .dead)
 .dead)
 .dead)
 .dead)
 .dead)
 .dead)
 .dead)
 .dead))
theorem ls2_p0 : runFn Try.prog { pc := [((.cmp .eql (.var 16) (.lit 0)), true), ((.cmp .eql (.var 9) (.lit 2)), true), ((.cmp .lss (.pl .mul (.var 7) (.lit 4294967296)) (.lit 1288490188800)), true), ((.cmp .lss (.lit 536870912) (.var 6)), true), ((.cmp .eql (.var 18) (.lit 0)), true)], cr := lsK 2 ++ crS, rg := lsR, ar := arN, ct := conCt lsR arN consN } 1000 11 (lsA 2) = .ok (.bool (.cmp .eql (.var 17) (.lit 0))) := by kernel_rfl
theorem ls2_p1 : runFn Try.prog { pc := [((.cmp .eql (.var 15) (.lit 0)), true), ((.cmp .eql (.var 16) (.lit 2)), true), ((.cmp .eql (.var 17) (.var 6)), true), ((.cmp .eql (.var 16) (.lit 0)), false), ((.cmp .eql (.var 9) (.lit 4)), true), ((.cmp .lss (.pl .mul (.var 7) (.lit 4294967296)) (.lit 1288490188800)), false), ((.cmp .lss (.lit 536870912) (.var 6)), true), ((.cmp .eql (.var 18) (.lit 0)), true)], cr := lsK 2 ++ crS, rg := lsR, ar := arN, ct := conCt lsR arN consN } 1000 11 (lsA 2) = .ok (.bool (.lit true)) := by kernel_rfl
theorem ls2_p2 : runFn Try.prog { pc := [((.cmp .eql (.var 16) (.lit 0)), true), ((.cmp .eql (.var 9) (.lit 2)), true), ((.cmp .lss (.pl .mul (.var 7) (.lit 4294967296)) (.lit 1288490188800)), true), ((.cmp .lss (.var 6) (.lit (-536870912))), true), ((.cmp .lss (.lit 536870912) (.var 6)), false), ((.cmp .eql (.var 18) (.lit 0)), true)], cr := lsK 2 ++ crS, rg := lsR, ar := arN, ct := conCt lsR arN consN } 1000 11 (lsA 2) = .ok (.bool (.cmp .eql (.var 17) (.lit 0))) := by kernel_rfl
theorem ls2_p3 : runFn Try.prog { pc := [((.cmp .eql (.var 15) (.lit 0)), true), ((.cmp .eql (.var 16) (.lit 2)), true), ((.cmp .eql (.var 17) (.var 6)), true), ((.cmp .eql (.var 16) (.lit 0)), false), ((.cmp .eql (.var 9) (.lit 4)), true), ((.cmp .lss (.pl .mul (.var 7) (.lit 4294967296)) (.lit 1288490188800)), false), ((.cmp .lss (.var 6) (.lit (-536870912))), true), ((.cmp .lss (.lit 536870912) (.var 6)), false), ((.cmp .eql (.var 18) (.lit 0)), true)], cr := lsK 2 ++ crS, rg := lsR, ar := arN, ct := conCt lsR arN consN } 1000 11 (lsA 2) = .ok (.bool (.lit true)) := by kernel_rfl
theorem ls2_p4 : runFn Try.prog { pc := [((.cmp .eql (.var 16) (.lit 2)), false), ((.cmp .eql (.var 17) (.var 6)), true), ((.cmp .eql (.var 16) (.lit 0)), false), ((.cmp .eql (.var 9) (.lit 4)), true), ((.cmp .lss (.var 6) (.lit (-536870912))), false), ((.cmp .lss (.lit 536870912) (.var 6)), false), ((.cmp .eql (.var 18) (.lit 0)), true)], cr := lsK 2 ++ crS, rg := lsR, ar := arN, ct := conCt lsR arN consN } 1000 11 (lsA 2) = .ok (.bool (.cmp .eql (.var 15) (.var 6))) := by kernel_rfl
theorem ls2_p5 : runFn Try.prog { pc := [((.cmp .eql (.var 17) (.lit 0)), true), ((.cmp .eql (.var 16) (.lit 0)), true), ((.cmp .eql (.var 15) (.var 5)), true), ((.cmp .eql (.var 14) (.var 4)), true), ((.cmp .eql (.var 13) (.var 3)), true), ((.cmp .eql (.var 12) (.var 2)), true), ((.cmp .eql (.var 11) (.var 1)), true), ((.cmp .eql (.var 10) (.lit 0)), true), ((.cmp .eql (.var 9) (.lit 2)), true), ((.cmp .eql (.var 18) (.lit 0)), false)], cr := lsK 2 ++ crS, rg := lsR, ar := arN, ct := conCt lsR arN consN } 1000 11 (lsA 2) = .ok (.bool (.lit true)) := by kernel_rfl
theorem ls2_ok : ls2T.Ok Try.prog { pc := [], cr := lsK 2 ++ crS, rg := lsR, ar := arN, ct := conCt lsR arN consN } 1000 11 (lsA 2) := ⟨⟨⟨⟨⟨⟨ls2_p0, rfl⟩, trivial⟩, trivial⟩, ⟨⟨trivial, ⟨⟨⟨⟨ls2_p1, rfl⟩, trivial⟩, trivial⟩, trivial⟩⟩, trivial⟩⟩, ⟨⟨⟨⟨⟨ls2_p2, rfl⟩, trivial⟩, trivial⟩, ⟨⟨trivial, ⟨⟨⟨⟨ls2_p3, rfl⟩, trivial⟩, trivial⟩, trivial⟩⟩, trivial⟩⟩, ⟨⟨trivial, ⟨⟨trivial, ⟨ls2_p4, rfl⟩⟩, trivial⟩⟩, trivial⟩⟩⟩, ⟨⟨⟨⟨⟨⟨⟨⟨⟨⟨ls2_p5, rfl⟩, trivial⟩, trivial⟩, trivial⟩, trivial⟩, trivial⟩, trivial⟩, trivial⟩, trivial⟩, trivial⟩⟩
theorem ls2_good (a o2 f j wa re off g p : Int) (ho : InI off) (hg : 0 ≤ g ∧ g ≤ 65535) : good (envOf (lsL 2 a o2 f j wa re off g p) (ap := apN)) ls2T = true := by
  have hA := abs_far off ho
  have hG := gone_is g hg
  have e : plI .mul g 4294967296 = g * 4294967296 := rfl
  simp only [ls2T, good, BE.den, cmpI, IE.den, lsL, List.cons_append, List.nil_append, List.getD_cons_zero, List.getD_cons_succ, Dsc.upd, hG, e]
  generalize apN 11 off 0 0 = A at *
  by_cases c1 : 4294967296000 < A <;> by_cases c2 : 536870912 < A <;> by_cases c3 : g * 4294967296 < 1288490188800 <;> by_cases d1 : 536870912 < off <;> by_cases d2 : off < -536870912 <;> first | (exfalso; omega) | simp [c1, c2, c3, d1, d2]
def ls3T : Tree :=
(.node (.cmp .eql (.var 18) (.lit 0))
 (.node (.cmp .lss (.lit 536870912) (.var 6))
 (.node (.cmp .eql (.var 9) (.lit 2))
 (.node (.cmp .eql (.var 16) (.lit 0))
 (.leaf (.bool (.cmp .eql (.var 17) (.lit 0))))
 .dead)
 .dead)
 (.node (.cmp .lss (.var 6) (.lit (-536870912)))
 (.node (.cmp .eql (.var 9) (.lit 2))
 (.node (.cmp .eql (.var 16) (.lit 0))
 (.leaf (.bool (.cmp .eql (.var 17) (.lit 0))))
 .dead)
 .dead)
 (.node (.cmp .lss (.pl .mul (.var 7) (.lit 4294967296)) (.lit 1288490188800))
 (.node (.cmp .eql (.var 9) (.lit 3))
 (.node (.cmp .eql (.var 16) (.lit 0))
 (.leaf (.bool (.cmp .eql (.var 17) (.lit 0))))
 .dead)
 .dead)
 (.node (.cmp .eql (.var 9) (.lit 4))
 (.node (.cmp .eql (.var 16) (.lit 0))
 .dead
 (.node (.cmp .eql (.var 17) (.var 6))
 (.node (.cmp .eql (.var 16) (.lit 2))
 .dead
 (.leaf (.bool (.cmp .eql (.var 15) (.var 6)))))
 .dead))
 .dead))))
 (.node (.cmp .eql (.var 9) (.lit 3))
 (.node (.cmp .eql (.var 10) (.lit 0))
 (.node (.cmp .eql (.var 11) (.var 1))
 (.node (.cmp .eql (.var 12) (.var 2))
 (.node (.cmp .eql (.var 13) (.var 3))
 (.node (.cmp .eql (.var 14) (.var 4))
 (.node (.cmp .eql (.var 15) (.var 5))
 (.node (.cmp .eql (.var 16) (.lit 0))
 (.node (.cmp .eql (.var 17) (.lit 0))
 (.leaf (.bool (.lit true)))
 .dead)
 .dead)
 .dead)
 .dead)
 .dead)
 .dead)
 .dead)
 .dead)
 .dead))
theorem ls3_p0 : runFn Try.prog { pc := [((.cmp .eql (.var 16) (.lit 0)), true), ((.cmp .eql (.var 9) (.lit 2)), true), ((.cmp .lss (.lit 536870912) (.var 6)), true), ((.cmp .eql (.var 18) (.lit 0)), true)], cr := lsK 3 ++ crS, rg := lsR, ar := arN, ct := conCt lsR arN consN } 1000 11 (lsA 3) = .ok (.bool (.cmp .eql (.var 17) (.lit 0))) := by kernel_rfl
theorem ls3_p1 : runFn Try.prog { pc := [((.cmp .eql (.var 16) (.lit 0)), true), ((.cmp .eql (.var 9) (.lit 2)), true), ((.cmp .lss (.var 6) (.lit (-536870912))), true), ((.cmp .lss (.lit 536870912) (.var 6)), false), ((.cmp .eql (.var 18) (.lit 0)), true)], cr := lsK 3 ++ crS, rg := lsR, ar := arN, ct := conCt lsR arN consN } 1000 11 (lsA 3) = .ok (.bool (.cmp .eql (.var 17) (.lit 0))) := by kernel_rfl
theorem ls3_p2 : runFn Try.prog { pc := [((.cmp .eql (.var 16) (.lit 0)), true), ((.cmp .eql (.var 9) (.lit 3)), true), ((.cmp .lss (.pl .mul (.var 7) (.lit 4294967296)) (.lit 1288490188800)), true), ((.cmp .lss (.var 6) (.lit (-536870912))), false), ((.cmp .lss (.lit 536870912) (.var 6)), false), ((.cmp .eql (.var 18) (.lit 0)), true)], cr := lsK 3 ++ crS, rg := lsR, ar := arN, ct := conCt lsR arN consN } 1000 11 (lsA 3) = .ok (.bool (.cmp .eql (.var 17) (.lit 0))) := by kernel_rfl
theorem ls3_p3 : runFn Try.prog { pc := [((.cmp .eql (.var 16) (.lit 2)), false), ((.cmp .eql (.var 17) (.var 6)), true), ((.cmp .eql (.var 16) (.lit 0)), false), ((.cmp .eql (.var 9) (.lit 4)), true), ((.cmp .lss (.pl .mul (.var 7) (.lit 4294967296)) (.lit 1288490188800)), false), ((.cmp .lss (.var 6) (.lit (-536870912))), false), ((.cmp .lss (.lit 536870912) (.var 6)), false), ((.cmp .eql (.var 18) (.lit 0)), true)], cr := lsK 3 ++ crS, rg := lsR, ar := arN, ct := conCt lsR arN consN } 1000 11 (lsA 3) = .ok (.bool (.cmp .eql (.var 15) (.var 6))) := by kernel_rfl
theorem ls3_p4 : runFn Try.prog { pc := [((.cmp .eql (.var 17) (.lit 0)), true), ((.cmp .eql (.var 16) (.lit 0)), true), ((.cmp .eql (.var 15) (.var 5)), true), ((.cmp .eql (.var 14) (.var 4)), true), ((.cmp .eql (.var 13) (.var 3)), true), ((.cmp .eql (.var 12) (.var 2)), true), ((.cmp .eql (.var 11) (.var 1)), true), ((.cmp .eql (.var 10) (.lit 0)), true), ((.cmp .eql (.var 9) (.lit 3)), true), ((.cmp .eql (.var 18) (.lit 0)), false)], cr := lsK 3 ++ crS, rg := lsR, ar := arN, ct := conCt lsR arN consN } 1000 11 (lsA 3) = .ok (.bool (.lit true)) := by kernel_rfl
theorem ls3_ok : ls3T.Ok Try.prog { pc := [], cr := lsK 3 ++ crS, rg := lsR, ar := arN, ct := conCt lsR arN consN } 1000 11 (lsA 3) := ⟨⟨⟨⟨⟨ls3_p0, rfl⟩, trivial⟩, trivial⟩, ⟨⟨⟨⟨ls3_p1, rfl⟩, trivial⟩, trivial⟩, ⟨⟨⟨⟨ls3_p2, rfl⟩, trivial⟩, trivial⟩, ⟨⟨trivial, ⟨⟨trivial, ⟨ls3_p3, rfl⟩⟩, trivial⟩⟩, trivial⟩⟩⟩⟩, ⟨⟨⟨⟨⟨⟨⟨⟨⟨⟨ls3_p4, rfl⟩, trivial⟩, trivial⟩, trivial⟩, trivial⟩, trivial⟩, trivial⟩, trivial⟩, trivial⟩, trivial⟩⟩
theorem ls3_good (a o2 f j wa re off g p : Int) (ho : InI off) (hg : 0 ≤ g ∧ g ≤ 65535) : good (envOf (lsL 3 a o2 f j wa re off g p) (ap := apN)) ls3T = true := by
  have hA := abs_far off ho
  have hG := gone_is g hg
  have e : plI .mul g 4294967296 = g * 4294967296 := rfl
  simp only [ls3T, good, BE.den, cmpI, IE.den, lsL, List.cons_append, List.nil_append, List.getD_cons_zero, List.getD_cons_succ, Dsc.upd, hG, e]
  generalize apN 11 off 0 0 = A at *
  by_cases c1 : 4294967296000 < A <;> by_cases c2 : 536870912 < A <;> by_cases c3 : g * 4294967296 < 1288490188800 <;> by_cases d1 : 536870912 < off <;> by_cases d2 : off < -536870912 <;> first | (exfalso; omega) | simp [c1, c2, c3, d1, d2]
def ls4T : Tree :=
(.node (.cmp .eql (.var 18) (.lit 0))
 (.node (.cmp .lss (.lit 536870912) (.var 6))
 (.node (.cmp .eql (.var 9) (.lit 2))
 (.node (.cmp .eql (.var 16) (.lit 0))
 (.leaf (.bool (.cmp .eql (.var 17) (.lit 0))))
 .dead)
 .dead)
 (.node (.cmp .lss (.var 6) (.lit (-536870912)))
 (.node (.cmp .eql (.var 9) (.lit 2))
 (.node (.cmp .eql (.var 16) (.lit 0))
 (.leaf (.bool (.cmp .eql (.var 17) (.lit 0))))
 .dead)
 .dead)
 (.node (.cmp .eql (.var 9) (.lit 4))
 (.node (.cmp .eql (.var 16) (.lit 0))
 .dead
 (.node (.cmp .eql (.var 17) (.var 6))
 (.node (.cmp .eql (.var 16) (.lit 2))
 .dead
 (.leaf (.bool (.cmp .eql (.var 15) (.var 6)))))
 .dead))
 .dead)))
 (.node (.cmp .eql (.var 9) (.lit 4))
 (.node (.cmp .eql (.var 10) (.lit 0))
 (.node (.cmp .eql (.var 11) (.var 1))
 (.node (.cmp .eql (.var 12) (.var 2))
 (.node (.cmp .eql (.var 13) (.var 3))
 (.node (.cmp .eql (.var 14) (.var 4))
 (.node (.cmp .eql (.var 15) (.var 5))
 (.node (.cmp .eql (.var 16) (.lit 0))
 (.node (.cmp .eql (.var 17) (.lit 0))
 (.leaf (.bool (.lit true)))
 .dead)
 .dead)
 .dead)
 .dead)
 .dead)
 .dead)
 .dead)
 .dead)
 .dead))
theorem ls4_p0 : runFn Try.prog { pc := [((.cmp .eql (.var 16) (.lit 0)), true), ((.cmp .eql (.var 9) (.lit 2)), true), ((.cmp .lss (.lit 536870912) (.var 6)), true), ((.cmp .eql (.var 18) (.lit 0)), true)], cr := lsK 4 ++ crS, rg := lsR, ar := arN, ct := conCt lsR arN consN } 1000 11 (lsA 4) = .ok (.bool (.cmp .eql (.var 17) (.lit 0))) := by kernel_rfl
theorem ls4_p1 : runFn Try.prog { pc := [((.cmp .eql (.var 16) (.lit 0)), true), ((.cmp .eql (.var 9) (.lit 2)), true), ((.cmp .lss (.var 6) (.lit (-536870912))), true), ((.cmp .lss (.lit 536870912) (.var 6)), false), ((.cmp .eql (.var 18) (.lit 0)), true)], cr := lsK 4 ++ crS, rg := lsR, ar := arN, ct := conCt lsR arN consN } 1000 11 (lsA 4) = .ok (.bool (.cmp .eql (.var 17) (.lit 0))) := by kernel_rfl
theorem ls4_p2 : runFn Try.prog { pc := [((.cmp .eql (.var 16) (.lit 2)), false), ((.cmp .eql (.var 17) (.var 6)), true), ((.cmp .eql (.var 16) (.lit 0)), false), ((.cmp .eql (.var 9) (.lit 4)), true), ((.cmp .lss (.var 6) (.lit (-536870912))), false), ((.cmp .lss (.lit 536870912) (.var 6)), false), ((.cmp .eql (.var 18) (.lit 0)), true)], cr := lsK 4 ++ crS, rg := lsR, ar := arN, ct := conCt lsR arN consN } 1000 11 (lsA 4) = .ok (.bool (.cmp .eql (.var 15) (.var 6))) := by kernel_rfl
theorem ls4_p3 : runFn Try.prog { pc := [((.cmp .eql (.var 17) (.lit 0)), true), ((.cmp .eql (.var 16) (.lit 0)), true), ((.cmp .eql (.var 15) (.var 5)), true), ((.cmp .eql (.var 14) (.var 4)), true), ((.cmp .eql (.var 13) (.var 3)), true), ((.cmp .eql (.var 12) (.var 2)), true), ((.cmp .eql (.var 11) (.var 1)), true), ((.cmp .eql (.var 10) (.lit 0)), true), ((.cmp .eql (.var 9) (.lit 4)), true), ((.cmp .eql (.var 18) (.lit 0)), false)], cr := lsK 4 ++ crS, rg := lsR, ar := arN, ct := conCt lsR arN consN } 1000 11 (lsA 4) = .ok (.bool (.lit true)) := by kernel_rfl
theorem ls4_ok : ls4T.Ok Try.prog { pc := [], cr := lsK 4 ++ crS, rg := lsR, ar := arN, ct := conCt lsR arN consN } 1000 11 (lsA 4) := ⟨⟨⟨⟨⟨ls4_p0, rfl⟩, trivial⟩, trivial⟩, ⟨⟨⟨⟨ls4_p1, rfl⟩, trivial⟩, trivial⟩, ⟨⟨trivial, ⟨⟨trivial, ⟨ls4_p2, rfl⟩⟩, trivial⟩⟩, trivial⟩⟩⟩, ⟨⟨⟨⟨⟨⟨⟨⟨⟨⟨ls4_p3, rfl⟩, trivial⟩, trivial⟩, trivial⟩, trivial⟩, trivial⟩, trivial⟩, trivial⟩, trivial⟩, trivial⟩⟩
theorem ls4_good (a o2 f j wa re off g p : Int) (ho : InI off) (hg : 0 ≤ g ∧ g ≤ 65535) : good (envOf (lsL 4 a o2 f j wa re off g p) (ap := apN)) ls4T = true := by
  have hA := abs_far off ho
  have hG := gone_is g hg
  have e : plI .mul g 4294967296 = g * 4294967296 := rfl
  simp only [ls4T, good, BE.den, cmpI, IE.den, lsL, List.cons_append, List.nil_append, List.getD_cons_zero, List.getD_cons_succ, Dsc.upd, hG, e]
  generalize apN 11 off 0 0 = A at *
  by_cases c1 : 4294967296000 < A <;> by_cases c2 : 536870912 < A <;> by_cases c3 : g * 4294967296 < 1288490188800 <;> by_cases d1 : 536870912 < off <;> by_cases d2 : off < -536870912 <;> first | (exfalso; omega) | simp [c1, c2, c3, d1, d2]
theorem ls_out (v : Int × Int) (hT : (Tree.leaf (.bool (.lit true))).check Try.prog { pc := [], cr := k19 ++ crS, rg := v :: lsR, ar := arN, ct := conCt (v :: lsR) arN consN } 1000 11 [.agg [.int .i64 (.var 0), .int .i64 (.var 1), .int .i64 (.var 2), .int .i64 (.var 3), .int .i64 (.var 4), .int .i64 (.var 5), .int .i64 (.var 6)], .int .i64 (.var 7), .int .u16 (.var 8), .int .u8 (.var 9)] = true)
    (s a o2 f j wa re off g p : Int) (hs : v.1 ≤ s ∧ s ≤ v.2) (h0 : InI a) (h1 : InI o2) (h2 : InI f) (h3 : InI j) (h4 : InI wa) (h5 : InI re) (ho : InI off) (hg : 0 ≤ g ∧ g ≤ 65535) (hp : 0 ≤ p ∧ p ≤ 255) (w : World) :
    Calls Try.prog 11 #[.agg #[.int .i64 s, .int .i64 a, .int .i64 o2, .int .i64 f, .int .i64 j, .int .i64 wa, .int .i64 re], .int .i64 off, .int .u16 g, .int .u8 p] w fun e w' => e = .returned (.bool true) ∧ Below w.heap.size w w' := by
  have z : ∀ x : Int, 0 ≤ x → (0 : Int) ≤ 0 ∧ (0 : Int) ≤ x := fun x h => ⟨by omega, h⟩
  have z0 : InI 0 := by decide
  exact law_any (bs := []) (fs := []) (is := [s, a, o2, f, j, wa, re, off, g, p, 0, 0, 0, 0, 0, 0, 0, 0, 0, 0]) (rg := v :: lsR) (args := [.agg [.int .i64 (.var 0), .int .i64 (.var 1), .int .i64 (.var 2), .int .i64 (.var 3), .int .i64 (.var 4), .int .i64 (.var 5), .int .i64 (.var 6)], .int .i64 (.var 7), .int .u16 (.var 8), .int .u8 (.var 9)]) ⟨hs, h0, h1, h2, h3, h4, h5, ho, hg, hp, z 4 (by decide), z0, z0, z0, z0, z0, z0, z 2 (by decide), z0, z 190 (by decide), trivial⟩ (cr := k19) k19_ok _ (n := 1000) hT rfl rfl w
theorem loopStates_walk (s a o2 f j wa re off g p : Int) (hs : InI s) (h0 : InI a) (h1 : InI o2) (h2 : InI f) (h3 : InI j) (h4 : InI wa) (h5 : InI re) (ho : InI off) (hg : 0 ≤ g ∧ g ≤ 65535) (hp : 0 ≤ p ∧ p ≤ 255) (w : World) :
    Calls Try.prog 11 #[.agg #[.int .i64 s, .int .i64 a, .int .i64 o2, .int .i64 f, .int .i64 j, .int .i64 wa, .int .i64 re], .int .i64 off, .int .u16 g, .int .u8 p] w fun e w' => e = .returned (.bool true) ∧ Below w.heap.size w w' := by
  by_cases c1 : s ≤ -1
  · exact ls_out (-9223372036854775808, -1) (by kernel_rfl) s a o2 f j wa re off g p ⟨hs.1, c1⟩ h0 h1 h2 h3 h4 h5 ho hg hp w
  by_cases c2 : 5 ≤ s
  · exact ls_out (5, 9223372036854775807) (by kernel_rfl) s a o2 f j wa re off g p ⟨c2, hs.2⟩ h0 h1 h2 h3 h4 h5 ho hg hp w
  have : s = 0 ∨ s = 1 ∨ s = 2 ∨ s = 3 ∨ s = 4 := by omega
  rcases this with rfl | rfl | rfl | rfl | rfl
  · exact ls_k 0 (by decide) ls0T ls0_ok a o2 f j wa re off g p h0 h1 h2 h3 h4 h5 ho hg hp (ls0_good a o2 f j wa re off g p ho hg) w
  · exact ls_k 1 (by decide) ls1T ls1_ok a o2 f j wa re off g p h0 h1 h2 h3 h4 h5 ho hg hp (ls1_good a o2 f j wa re off g p ho hg) w
  · exact ls_k 2 (by decide) ls2T ls2_ok a o2 f j wa re off g p h0 h1 h2 h3 h4 h5 ho hg hp (ls2_good a o2 f j wa re off g p ho hg) w
  · exact ls_k 3 (by decide) ls3T ls3_ok a o2 f j wa re off g p h0 h1 h2 h3 h4 h5 ho hg hp (ls3_good a o2 f j wa re off g p ho hg) w
  · exact ls_k 4 (by decide) ls4T ls4_ok a o2 f j wa re off g p h0 h1 h2 h3 h4 h5 ho hg hp (ls4_good a o2 f j wa re off g p ho hg) w
end Go.Proofs.Ythhipnhnpjhaaaa
