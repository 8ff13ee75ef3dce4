/- Law 18: CombineWithin: the walk. -/
import Derived.Test.YtopgidgkpafeeaaM30
import Derived.Test.YtopgidgkpafeeaaM31
namespace Go.Proofs.Ytopgidgkpafeeaa
open Go Go.RowKit Ev
set_option linter.unusedVariables false
set_option linter.unusedSimpArgs false
set_option maxRecDepth 100000
set_option maxHeartbeats 0
theorem cw_ok : cwT.Ok Try.prog (cwC []) 3000 12 cwA := ⟨⟨trivial, trivial, trivial, cw_p1, rfl⟩, ⟨⟨trivial, trivial, trivial, cw_p2, rfl⟩, ⟨⟨trivial, trivial, trivial, cw_p3, rfl⟩, ⟨⟨trivial, trivial, trivial, cw_p4, rfl⟩, ⟨⟨trivial, trivial, trivial, cw_p5, rfl⟩, ⟨⟨trivial, trivial, trivial, cw_p6, rfl⟩, ⟨⟨trivial, trivial, trivial, cw_p7, rfl⟩, ⟨⟨trivial, trivial, trivial, cw_p8, rfl⟩, ⟨⟨trivial, trivial, trivial, cw_p9, rfl⟩, ⟨⟨trivial, trivial, trivial, cw_p10, rfl⟩, ⟨⟨trivial, trivial, trivial, cw_p11, rfl⟩, ⟨⟨trivial, trivial, trivial, cw_p12, rfl⟩, ⟨⟨trivial, trivial, trivial, cw_p13, rfl⟩, ⟨⟨trivial, trivial, trivial, cw_p14, rfl⟩, ⟨⟨trivial, trivial, trivial, cw_p15, rfl⟩, ⟨⟨trivial, trivial, trivial, cw_p16, rfl⟩, ⟨⟨trivial, trivial, trivial, cw_p17, rfl⟩, ⟨⟨trivial, trivial, trivial, cw_p18, rfl⟩, ⟨⟨trivial, trivial, trivial, cw_p19, rfl⟩, ⟨⟨trivial, trivial, trivial, cw_p20, rfl⟩, trivial⟩⟩⟩⟩⟩⟩⟩⟩⟩⟩⟩⟩⟩⟩⟩⟩⟩⟩⟩⟩
theorem cw_w1 {ρ : Env} (hap : NumA ρ) (hs : -2147483648 ≤ ρ.i 4 ∧ ρ.i 4 ≤ 2147483647) (h1 : ¬ ρ.i 7 < IE.den ρ (.mx (.mn (.var 2) (.var 3)) (.lit (-9223372036854775807)))) (h2 : ¬ IE.den ρ (.mx (.mx (.var 2) (.var 3)) (.lit (-9223372036854775807))) < ρ.i 7) (h : ρ.i 6 = 1) : good ρ cwT = true := good_pin18 h (cw_g1 hap hs h1 h2)
theorem cw_w2 {ρ : Env} (hap : NumA ρ) (hs : -2147483648 ≤ ρ.i 4 ∧ ρ.i 4 ≤ 2147483647) (h1 : ¬ ρ.i 7 < IE.den ρ (.mx (.mn (.var 2) (.var 3)) (.lit (-9223372036854775807)))) (h2 : ¬ IE.den ρ (.mx (.mx (.var 2) (.var 3)) (.lit (-9223372036854775807))) < ρ.i 7) (h : ρ.i 6 = 2) : good ρ cwT = true := good_skip18 (by omega) (good_pin18 h (cw_g2 hap hs h1 h2))
theorem cw_w3 {ρ : Env} (hap : NumA ρ) (hs : -2147483648 ≤ ρ.i 4 ∧ ρ.i 4 ≤ 2147483647) (h1 : ¬ ρ.i 7 < IE.den ρ (.mx (.mn (.var 2) (.var 3)) (.lit (-9223372036854775807)))) (h2 : ¬ IE.den ρ (.mx (.mx (.var 2) (.var 3)) (.lit (-9223372036854775807))) < ρ.i 7) (h : ρ.i 6 = 3) : good ρ cwT = true := good_skip18 (by omega) (good_skip18 (by omega) (good_pin18 h (cw_g3 hap hs h1 h2)))
theorem cw_w4 {ρ : Env} (hap : NumA ρ) (hs : -2147483648 ≤ ρ.i 4 ∧ ρ.i 4 ≤ 2147483647) (h1 : ¬ ρ.i 7 < IE.den ρ (.mx (.mn (.var 2) (.var 3)) (.lit (-9223372036854775807)))) (h2 : ¬ IE.den ρ (.mx (.mx (.var 2) (.var 3)) (.lit (-9223372036854775807))) < ρ.i 7) (h : ρ.i 6 = 4) : good ρ cwT = true := good_skip18 (by omega) (good_skip18 (by omega) (good_skip18 (by omega) (good_pin18 h (cw_g4 hap hs h1 h2))))
theorem cw_w5 {ρ : Env} (hap : NumA ρ) (hs : -2147483648 ≤ ρ.i 4 ∧ ρ.i 4 ≤ 2147483647) (h1 : ¬ ρ.i 7 < IE.den ρ (.mx (.mn (.var 2) (.var 3)) (.lit (-9223372036854775807)))) (h2 : ¬ IE.den ρ (.mx (.mx (.var 2) (.var 3)) (.lit (-9223372036854775807))) < ρ.i 7) (h : ρ.i 6 = 5) : good ρ cwT = true := good_skip18 (by omega) (good_skip18 (by omega) (good_skip18 (by omega) (good_skip18 (by omega) (good_pin18 h (cw_g5 hap hs h1 h2)))))
theorem cw_w6 {ρ : Env} (hap : NumA ρ) (hs : -2147483648 ≤ ρ.i 4 ∧ ρ.i 4 ≤ 2147483647) (h1 : ¬ ρ.i 7 < IE.den ρ (.mx (.mn (.var 2) (.var 3)) (.lit (-9223372036854775807)))) (h2 : ¬ IE.den ρ (.mx (.mx (.var 2) (.var 3)) (.lit (-9223372036854775807))) < ρ.i 7) (h : ρ.i 6 = 6) : good ρ cwT = true := good_skip18 (by omega) (good_skip18 (by omega) (good_skip18 (by omega) (good_skip18 (by omega) (good_skip18 (by omega) (good_pin18 h (cw_g6 hap hs h1 h2))))))
theorem cw_w7 {ρ : Env} (hap : NumA ρ) (hs : -2147483648 ≤ ρ.i 4 ∧ ρ.i 4 ≤ 2147483647) (h1 : ¬ ρ.i 7 < IE.den ρ (.mx (.mn (.var 2) (.var 3)) (.lit (-9223372036854775807)))) (h2 : ¬ IE.den ρ (.mx (.mx (.var 2) (.var 3)) (.lit (-9223372036854775807))) < ρ.i 7) (h : ρ.i 6 = 7) : good ρ cwT = true := good_skip18 (by omega) (good_skip18 (by omega) (good_skip18 (by omega) (good_skip18 (by omega) (good_skip18 (by omega) (good_skip18 (by omega) (good_pin18 h (cw_g7 hap hs h1 h2)))))))
theorem cw_w8 {ρ : Env} (hap : NumA ρ) (hs : -2147483648 ≤ ρ.i 4 ∧ ρ.i 4 ≤ 2147483647) (h1 : ¬ ρ.i 7 < IE.den ρ (.mx (.mn (.var 2) (.var 3)) (.lit (-9223372036854775807)))) (h2 : ¬ IE.den ρ (.mx (.mx (.var 2) (.var 3)) (.lit (-9223372036854775807))) < ρ.i 7) (h : ρ.i 6 = 8) : good ρ cwT = true := good_skip18 (by omega) (good_skip18 (by omega) (good_skip18 (by omega) (good_skip18 (by omega) (good_skip18 (by omega) (good_skip18 (by omega) (good_skip18 (by omega) (good_pin18 h (cw_g8 hap hs h1 h2))))))))
theorem cw_w9 {ρ : Env} (hap : NumA ρ) (hs : -2147483648 ≤ ρ.i 4 ∧ ρ.i 4 ≤ 2147483647) (h1 : ¬ ρ.i 7 < IE.den ρ (.mx (.mn (.var 2) (.var 3)) (.lit (-9223372036854775807)))) (h2 : ¬ IE.den ρ (.mx (.mx (.var 2) (.var 3)) (.lit (-9223372036854775807))) < ρ.i 7) (h : ρ.i 6 = 9) : good ρ cwT = true := good_skip18 (by omega) (good_skip18 (by omega) (good_skip18 (by omega) (good_skip18 (by omega) (good_skip18 (by omega) (good_skip18 (by omega) (good_skip18 (by omega) (good_skip18 (by omega) (good_pin18 h (cw_g9 hap hs h1 h2)))))))))
theorem cw_w10 {ρ : Env} (hap : NumA ρ) (hs : -2147483648 ≤ ρ.i 4 ∧ ρ.i 4 ≤ 2147483647) (h1 : ¬ ρ.i 7 < IE.den ρ (.mx (.mn (.var 2) (.var 3)) (.lit (-9223372036854775807)))) (h2 : ¬ IE.den ρ (.mx (.mx (.var 2) (.var 3)) (.lit (-9223372036854775807))) < ρ.i 7) (h : ρ.i 6 = 10) : good ρ cwT = true := good_skip18 (by omega) (good_skip18 (by omega) (good_skip18 (by omega) (good_skip18 (by omega) (good_skip18 (by omega) (good_skip18 (by omega) (good_skip18 (by omega) (good_skip18 (by omega) (good_skip18 (by omega) (good_pin18 h (cw_g10 hap hs h1 h2))))))))))
theorem cw_w11 {ρ : Env} (hap : NumA ρ) (hs : -2147483648 ≤ ρ.i 4 ∧ ρ.i 4 ≤ 2147483647) (h1 : ¬ ρ.i 7 < IE.den ρ (.mx (.mn (.var 2) (.var 3)) (.lit (-9223372036854775807)))) (h2 : ¬ IE.den ρ (.mx (.mx (.var 2) (.var 3)) (.lit (-9223372036854775807))) < ρ.i 7) (h : ρ.i 6 = 11) : good ρ cwT = true := good_skip18 (by omega) (good_skip18 (by omega) (good_skip18 (by omega) (good_skip18 (by omega) (good_skip18 (by omega) (good_skip18 (by omega) (good_skip18 (by omega) (good_skip18 (by omega) (good_skip18 (by omega) (good_skip18 (by omega) (good_pin18 h (cw_g11 hap hs h1 h2)))))))))))
theorem cw_w12 {ρ : Env} (hap : NumA ρ) (hs : -2147483648 ≤ ρ.i 4 ∧ ρ.i 4 ≤ 2147483647) (h1 : ¬ ρ.i 7 < IE.den ρ (.mx (.mn (.var 2) (.var 3)) (.lit (-9223372036854775807)))) (h2 : ¬ IE.den ρ (.mx (.mx (.var 2) (.var 3)) (.lit (-9223372036854775807))) < ρ.i 7) (h : ρ.i 6 = 12) : good ρ cwT = true := good_skip18 (by omega) (good_skip18 (by omega) (good_skip18 (by omega) (good_skip18 (by omega) (good_skip18 (by omega) (good_skip18 (by omega) (good_skip18 (by omega) (good_skip18 (by omega) (good_skip18 (by omega) (good_skip18 (by omega) (good_skip18 (by omega) (good_pin18 h (cw_g12 hap hs h1 h2))))))))))))
theorem cw_w13 {ρ : Env} (hap : NumA ρ) (hs : -2147483648 ≤ ρ.i 4 ∧ ρ.i 4 ≤ 2147483647) (h1 : ¬ ρ.i 7 < IE.den ρ (.mx (.mn (.var 2) (.var 3)) (.lit (-9223372036854775807)))) (h2 : ¬ IE.den ρ (.mx (.mx (.var 2) (.var 3)) (.lit (-9223372036854775807))) < ρ.i 7) (h : ρ.i 6 = 13) : good ρ cwT = true := good_skip18 (by omega) (good_skip18 (by omega) (good_skip18 (by omega) (good_skip18 (by omega) (good_skip18 (by omega) (good_skip18 (by omega) (good_skip18 (by omega) (good_skip18 (by omega) (good_skip18 (by omega) (good_skip18 (by omega) (good_skip18 (by omega) (good_skip18 (by omega) (good_pin18 h (cw_g13 hap hs h1 h2)))))))))))))
theorem cw_w14 {ρ : Env} (hap : NumA ρ) (hs : -2147483648 ≤ ρ.i 4 ∧ ρ.i 4 ≤ 2147483647) (h1 : ¬ ρ.i 7 < IE.den ρ (.mx (.mn (.var 2) (.var 3)) (.lit (-9223372036854775807)))) (h2 : ¬ IE.den ρ (.mx (.mx (.var 2) (.var 3)) (.lit (-9223372036854775807))) < ρ.i 7) (h : ρ.i 6 = 14) : good ρ cwT = true := good_skip18 (by omega) (good_skip18 (by omega) (good_skip18 (by omega) (good_skip18 (by omega) (good_skip18 (by omega) (good_skip18 (by omega) (good_skip18 (by omega) (good_skip18 (by omega) (good_skip18 (by omega) (good_skip18 (by omega) (good_skip18 (by omega) (good_skip18 (by omega) (good_skip18 (by omega) (good_pin18 h (cw_g14 hap hs h1 h2))))))))))))))
theorem cw_w15 {ρ : Env} (hap : NumA ρ) (hs : -2147483648 ≤ ρ.i 4 ∧ ρ.i 4 ≤ 2147483647) (h1 : ¬ ρ.i 7 < IE.den ρ (.mx (.mn (.var 2) (.var 3)) (.lit (-9223372036854775807)))) (h2 : ¬ IE.den ρ (.mx (.mx (.var 2) (.var 3)) (.lit (-9223372036854775807))) < ρ.i 7) (h : ρ.i 6 = 15) : good ρ cwT = true := good_skip18 (by omega) (good_skip18 (by omega) (good_skip18 (by omega) (good_skip18 (by omega) (good_skip18 (by omega) (good_skip18 (by omega) (good_skip18 (by omega) (good_skip18 (by omega) (good_skip18 (by omega) (good_skip18 (by omega) (good_skip18 (by omega) (good_skip18 (by omega) (good_skip18 (by omega) (good_skip18 (by omega) (good_pin18 h (cw_g15 hap hs h1 h2)))))))))))))))
theorem cw_w16 {ρ : Env} (hap : NumA ρ) (hs : -2147483648 ≤ ρ.i 4 ∧ ρ.i 4 ≤ 2147483647) (h1 : ¬ ρ.i 7 < IE.den ρ (.mx (.mn (.var 2) (.var 3)) (.lit (-9223372036854775807)))) (h2 : ¬ IE.den ρ (.mx (.mx (.var 2) (.var 3)) (.lit (-9223372036854775807))) < ρ.i 7) (h : ρ.i 6 = 16) : good ρ cwT = true := good_skip18 (by omega) (good_skip18 (by omega) (good_skip18 (by omega) (good_skip18 (by omega) (good_skip18 (by omega) (good_skip18 (by omega) (good_skip18 (by omega) (good_skip18 (by omega) (good_skip18 (by omega) (good_skip18 (by omega) (good_skip18 (by omega) (good_skip18 (by omega) (good_skip18 (by omega) (good_skip18 (by omega) (good_skip18 (by omega) (good_pin18 h (cw_g16 hap hs h1 h2))))))))))))))))
theorem cw_w17 {ρ : Env} (hap : NumA ρ) (hs : -2147483648 ≤ ρ.i 4 ∧ ρ.i 4 ≤ 2147483647) (h1 : ¬ ρ.i 7 < IE.den ρ (.mx (.mn (.var 2) (.var 3)) (.lit (-9223372036854775807)))) (h2 : ¬ IE.den ρ (.mx (.mx (.var 2) (.var 3)) (.lit (-9223372036854775807))) < ρ.i 7) (h : ρ.i 6 = 17) : good ρ cwT = true := good_skip18 (by omega) (good_skip18 (by omega) (good_skip18 (by omega) (good_skip18 (by omega) (good_skip18 (by omega) (good_skip18 (by omega) (good_skip18 (by omega) (good_skip18 (by omega) (good_skip18 (by omega) (good_skip18 (by omega) (good_skip18 (by omega) (good_skip18 (by omega) (good_skip18 (by omega) (good_skip18 (by omega) (good_skip18 (by omega) (good_skip18 (by omega) (good_pin18 h (cw_g17 hap hs h1 h2)))))))))))))))))
theorem cw_w18 {ρ : Env} (hap : NumA ρ) (hs : -2147483648 ≤ ρ.i 4 ∧ ρ.i 4 ≤ 2147483647) (h1 : ¬ ρ.i 7 < IE.den ρ (.mx (.mn (.var 2) (.var 3)) (.lit (-9223372036854775807)))) (h2 : ¬ IE.den ρ (.mx (.mx (.var 2) (.var 3)) (.lit (-9223372036854775807))) < ρ.i 7) (h : ρ.i 6 = 18) : good ρ cwT = true := good_skip18 (by omega) (good_skip18 (by omega) (good_skip18 (by omega) (good_skip18 (by omega) (good_skip18 (by omega) (good_skip18 (by omega) (good_skip18 (by omega) (good_skip18 (by omega) (good_skip18 (by omega) (good_skip18 (by omega) (good_skip18 (by omega) (good_skip18 (by omega) (good_skip18 (by omega) (good_skip18 (by omega) (good_skip18 (by omega) (good_skip18 (by omega) (good_skip18 (by omega) (good_pin18 h (cw_g18 hap hs h1 h2))))))))))))))))))
theorem cw_w19 {ρ : Env} (hap : NumA ρ) (hs : -2147483648 ≤ ρ.i 4 ∧ ρ.i 4 ≤ 2147483647) (h1 : ¬ ρ.i 7 < IE.den ρ (.mx (.mn (.var 2) (.var 3)) (.lit (-9223372036854775807)))) (h2 : ¬ IE.den ρ (.mx (.mx (.var 2) (.var 3)) (.lit (-9223372036854775807))) < ρ.i 7) (h : ρ.i 6 = 19) : good ρ cwT = true := good_skip18 (by omega) (good_skip18 (by omega) (good_skip18 (by omega) (good_skip18 (by omega) (good_skip18 (by omega) (good_skip18 (by omega) (good_skip18 (by omega) (good_skip18 (by omega) (good_skip18 (by omega) (good_skip18 (by omega) (good_skip18 (by omega) (good_skip18 (by omega) (good_skip18 (by omega) (good_skip18 (by omega) (good_skip18 (by omega) (good_skip18 (by omega) (good_skip18 (by omega) (good_skip18 (by omega) (good_pin18 h (cw_g19 hap hs h1 h2)))))))))))))))))))
theorem cw_w20 {ρ : Env} (hap : NumA ρ) (hs : -2147483648 ≤ ρ.i 4 ∧ ρ.i 4 ≤ 2147483647) (h1 : ¬ ρ.i 7 < IE.den ρ (.mx (.mn (.var 2) (.var 3)) (.lit (-9223372036854775807)))) (h2 : ¬ IE.den ρ (.mx (.mx (.var 2) (.var 3)) (.lit (-9223372036854775807))) < ρ.i 7) (h : ρ.i 6 = 20) : good ρ cwT = true := good_skip18 (by omega) (good_skip18 (by omega) (good_skip18 (by omega) (good_skip18 (by omega) (good_skip18 (by omega) (good_skip18 (by omega) (good_skip18 (by omega) (good_skip18 (by omega) (good_skip18 (by omega) (good_skip18 (by omega) (good_skip18 (by omega) (good_skip18 (by omega) (good_skip18 (by omega) (good_skip18 (by omega) (good_skip18 (by omega) (good_skip18 (by omega) (good_skip18 (by omega) (good_skip18 (by omega) (good_skip18 (by omega) (good_pin18 h (cw_g20 hap hs h1 h2))))))))))))))))))))
theorem knowsC_shown {ρ : Env} {E : List (Nat × Nat)} {rg ar : List (Int × Int)} {xs : List XD} {X : Ctx} (hX : X = { pc := [], cr := [(37, [], .bool (.lit true))], rg := rg, ar := ar, xs := xs }) (_ : True = True) : KnowsC Try.prog ρ E X := by
  subst hX
  exact ⟨fun q hq φ w _ => (by obtain rfl := List.mem_singleton.1 hq; exact shown18 w), fun pc _ f vs v h => (by cases h), fun f p u L h => (by cases h)⟩
theorem clamp_in {x lo hi : Int} (h : lo ≤ hi) (h1 : -9223372036854775807 ≤ lo) (h2 : hi ≤ 9223372036854775807) : lo ≤ apN 10 x lo hi ∧ apN 10 x lo hi ≤ hi := by
  show lo ≤ sat (fClamp x lo hi) ∧ sat (fClamp x lo hi) ≤ hi
  unfold fClamp sat
  constructor <;> (repeat' split) <;> omega
theorem combineWithin_walk {v v1 : Value} {a b same nn : Int} {W : World} (hv : IsXs [.int .i64] W v) (hv1 : IsXs [.int .i64] W v1) (ha : InI a) (hb : InI b) (hs : -2147483648 ≤ same ∧ same ≤ 2147483647) (hn : 0 ≤ nn ∧ nn ≤ 255) :
    Calls Try.prog 12 #[v, v1, .int .i64 a, .int .i64 b, .int .i32 same, .int .u8 nn] W fun e w' => e = .returned (.bool true) ∧ Below W.heap.size W w' := by
  obtain ⟨B, rows, hB⟩ := hv.any
  obtain ⟨C, cols, hC⟩ := hv1.any
  have hval := hB.val
  have hval1 := hC.val
  have hle := hB.le
  have hle1 := hC.le
  have har := mArIn hB hC (ρ := envOf [(B.len : Int), (C.len : Int), a, b, same, nn] (ap := apR (rows ++ cols)) (xs := [some B, some C])) rfl
  have hx2 := mXok hB hC (ρ := envOf [(B.len : Int), (C.len : Int), a, b, same, nn] (ap := apR (rows ++ cols)) (xs := [some B, some C])) rfl rfl rfl rfl
  by_cases hl : B.len ≤ 60
  · by_cases hg : C.len ≤ 60
    · have e2 : mxI (mnI a b) (-9223372036854775807) ≤ mxI (mxI a b) (-9223372036854775807) := by
        unfold mxI mnI
        repeat' split
        all_goals omega
      have b1 : -9223372036854775807 ≤ mxI (mnI a b) (-9223372036854775807) ∧ mxI (mnI a b) (-9223372036854775807) ≤ 9223372036854775807 := by
        obtain ⟨h3, h4⟩ := ha
        obtain ⟨h5, h6⟩ := hb
        unfold mxI mnI
        repeat' split
        all_goals omega
      have b2 : -9223372036854775807 ≤ mxI (mxI a b) (-9223372036854775807) ∧ mxI (mxI a b) (-9223372036854775807) ≤ 9223372036854775807 := by
        obtain ⟨h3, h4⟩ := ha
        obtain ⟨h5, h6⟩ := hb
        unfold mxI
        repeat' split
        all_goals omega
      have hm := clamp_in (x := apN 8 (mS (rows ++ cols) (min B.len C.len)) (mW (rows ++ cols) (min B.len C.len)) 0) e2 b1.1 b2.2
      generalize hmd : apN 10 (apN 8 (mS (rows ++ cols) (min B.len C.len)) (mW (rows ++ cols) (min B.len C.len)) 0) (mxI (mnI a b) (-9223372036854775807)) (mxI (mxI a b) (-9223372036854775807)) = mean at hm
      generalize hρ : envOf [(B.len : Int), (C.len : Int), a, b, same, nn, 1 + nn % 20, mean] (ap := apR (rows ++ cols)) (xs := [some B, some C]) = ρ
      have hra : ρ.a = apR (rows ++ cols) := by rw [← hρ]
      have hrx : ρ.x = fun n => [some B, some C].getD n none := by rw [← hρ]
      have i0 : ρ.i 0 = B.len := by rw [← hρ]; rfl
      have i1 : ρ.i 1 = C.len := by rw [← hρ]; rfl
      have i2 : ρ.i 2 = a := by rw [← hρ]; rfl
      have i3 : ρ.i 3 = b := by rw [← hρ]; rfl
      have i4 : ρ.i 4 = same := by rw [← hρ]; rfl
      have i5 : ρ.i 5 = nn := by rw [← hρ]; rfl
      have i6 : ρ.i 6 = 1 + nn % 20 := by rw [← hρ]; rfl
      have i7 : ρ.i 7 = mean := by rw [← hρ]; rfl
      have er : nn.tmod 20 = nn % 20 := Int.tmod_eq_emod_of_nonneg hn.1
      have hin : AllIn ρ.i cwR 0 := by
        refine ⟨?_, ?_, ?_, ?_, ?_, ?_, ?_, ?_, trivial⟩
        · show (0 : Int) ≤ ρ.i 0 ∧ ρ.i 0 ≤ 60
          rw [i0]; omega
        · show (0 : Int) ≤ ρ.i 1 ∧ ρ.i 1 ≤ 60
          rw [i1]; omega
        · show InI (ρ.i 2)
          rw [i2]; exact ha
        · show InI (ρ.i 3)
          rw [i3]; exact hb
        · show (-2147483648 : Int) ≤ ρ.i 4 ∧ ρ.i 4 ≤ 2147483647
          rw [i4]; exact hs
        · show (0 : Int) ≤ ρ.i 5 ∧ ρ.i 5 ≤ 255
          rw [i5]; exact hn
        · show (1 : Int) ≤ ρ.i 6 ∧ ρ.i 6 ≤ 20
          rw [i6]; omega
        · show (-9223372036854775807 : Int) ≤ ρ.i 7 ∧ ρ.i 7 ≤ 9223372036854775807
          rw [i7]; omega
      have hd := tree_soundX (P := Try.prog) mixed (ρ := ρ) cwT (X := cwC []) (n := 3000) (f := 12) (args := cwA) (knows_env rfl hin (mArIn hB hC hra) (mXok hB hC hra hrx i0 i1) (hnm := fun p hp => by
          obtain rfl := List.mem_singleton.1 hp
          show (ρ.i 5).tmod 20 + 1 = ρ.i 6
          rw [i5, i6, er]; omega))
        ⟨fun q hq φ w hx => (by
          rcases List.mem_append.1 hq with hq | hq
          · simp only [List.mem_cons, List.not_mem_nil, or_false] at hq
            rcases hq with rfl | rfl
            · exact shown18 w
            · refine mean_known hB hC hl hg hrx ?_ ?_ ?_ φ w hx
              · show InI (mxI (mnI (ρ.i 2) (ρ.i 3)) (-9223372036854775807))
                rw [i2, i3]; exact ⟨by omega, b1.2⟩
              · show InI (mxI (mxI (ρ.i 2) (ρ.i 3)) (-9223372036854775807))
                rw [i2, i3]; exact ⟨by omega, b2.2⟩
              · show ρ.i 7 = apN 10 _ (mxI (mnI (ρ.i 2) (ρ.i 3)) (-9223372036854775807)) (mxI (mxI (ρ.i 2) (ρ.i 3)) (-9223372036854775807))
                rw [i7, i2, i3, hmd]
          · exact crS_ok q hq φ w hx), fun pc hpc f vs v h _ φ w _ => conCt_ok hin.get0 (mArIn hB hC hra) (consN_ok (numA_R hra)) hpc h φ w, fun f p u L h => (by cases h)⟩ cw_ok
      have hg2 : good ρ cwT = true := by
        have hap : NumA ρ := numA_R hra
        have hs : -2147483648 ≤ ρ.i 4 ∧ ρ.i 4 ≤ 2147483647 := by rw [i4]; exact hs
        have h1 : ¬ ρ.i 7 < IE.den ρ (.mx (.mn (.var 2) (.var 3)) (.lit (-9223372036854775807))) := by
          show ¬ ρ.i 7 < mxI (mnI (ρ.i 2) (ρ.i 3)) (-9223372036854775807)
          rw [i7, i2, i3]; omega
        have h2 : ¬ IE.den ρ (.mx (.mx (.var 2) (.var 3)) (.lit (-9223372036854775807))) < ρ.i 7 := by
          show ¬ mxI (mxI (ρ.i 2) (ρ.i 3)) (-9223372036854775807) < ρ.i 7
          rw [i7, i2, i3]; omega
        have hc : 1 + nn % 20 = 1 ∨ 1 + nn % 20 = 2 ∨ 1 + nn % 20 = 3 ∨ 1 + nn % 20 = 4 ∨ 1 + nn % 20 = 5 ∨ 1 + nn % 20 = 6 ∨ 1 + nn % 20 = 7 ∨ 1 + nn % 20 = 8 ∨ 1 + nn % 20 = 9 ∨ 1 + nn % 20 = 10 ∨ 1 + nn % 20 = 11 ∨ 1 + nn % 20 = 12 ∨ 1 + nn % 20 = 13 ∨ 1 + nn % 20 = 14 ∨ 1 + nn % 20 = 15 ∨ 1 + nn % 20 = 16 ∨ 1 + nn % 20 = 17 ∨ 1 + nn % 20 = 18 ∨ 1 + nn % 20 = 19 ∨ 1 + nn % 20 = 20 := by omega
        rw [← i6] at hc
        rcases hc with h | h | h | h | h | h | h | h | h | h | h | h | h | h | h | h | h | h | h | h
        · exact cw_w1 hap hs h1 h2 h
        · exact cw_w2 hap hs h1 h2 h
        · exact cw_w3 hap hs h1 h2 h
        · exact cw_w4 hap hs h1 h2 h
        · exact cw_w5 hap hs h1 h2 h
        · exact cw_w6 hap hs h1 h2 h
        · exact cw_w7 hap hs h1 h2 h
        · exact cw_w8 hap hs h1 h2 h
        · exact cw_w9 hap hs h1 h2 h
        · exact cw_w10 hap hs h1 h2 h
        · exact cw_w11 hap hs h1 h2 h
        · exact cw_w12 hap hs h1 h2 h
        · exact cw_w13 hap hs h1 h2 h
        · exact cw_w14 hap hs h1 h2 h
        · exact cw_w15 hap hs h1 h2 h
        · exact cw_w16 hap hs h1 h2 h
        · exact cw_w17 hap hs h1 h2 h
        · exact cw_w18 hap hs h1 h2 h
        · exact cw_w19 hap hs h1 h2 h
        · exact cw_w20 hap hs h1 h2 h

      obtain ⟨hlv, hvl⟩ := good_ok hg2
      have h := hd hlv W (ext_two hB hC hrx)
      rw [hvl] at h
      have e1 : (SV.denL ρ id cwA).toArray = #[v, v1, .int .i64 a, .int .i64 b, .int .i32 same, .int .u8 nn] := by
        simp only [SV.denL, SV.den, IE.den, i2, i3, i4, i5, hrx, hval, hval1]
        rfl
      rw [e1] at h
      exact h
    · have h := tree_soundX (P := Try.prog) mixed (ρ := envOf [(B.len : Int), (C.len : Int), a, b, same, nn] (ap := apR (rows ++ cols)) (xs := [some B, some C])) (.leaf (.bool (.lit true))) (X := { pc := [], cr := [(37, [], .bool (.lit true))], rg := [(0, 60), (61, 9223372036854775807)], ar := mAr, xs := mXs }) (n := 3000) (f := 12) (args := cwA) (knows_env rfl ⟨by show (0 : Int) ≤ (B.len : Nat) ∧ ((B.len : Nat) : Int) ≤ 60; omega, by show (61 : Int) ≤ (C.len : Nat) ∧ ((C.len : Nat) : Int) ≤ 9223372036854775807; unfold maxLen at hle1; omega, trivial⟩ har hx2)
        (knowsC_shown rfl rfl) (Tree.ok_of_check (by kernel_rfl)) rfl W (ext_two hB hC rfl)
      rw [hval, hval1]; exact h
  · have h := tree_soundX (P := Try.prog) mixed (ρ := envOf [(B.len : Int), (C.len : Int), a, b, same, nn] (ap := apR (rows ++ cols)) (xs := [some B, some C])) (.leaf (.bool (.lit true))) (X := { pc := [], cr := [(37, [], .bool (.lit true))], rg := [(61, 9223372036854775807), (0, 9223372036854775807)], ar := mAr, xs := mXs }) (n := 3000) (f := 12) (args := cwA) (knows_env rfl ⟨by show (61 : Int) ≤ (B.len : Nat) ∧ ((B.len : Nat) : Int) ≤ 9223372036854775807; unfold maxLen at hle; omega, by show (0 : Int) ≤ (C.len : Nat) ∧ ((C.len : Nat) : Int) ≤ 9223372036854775807; unfold maxLen at hle1; omega, trivial⟩ har hx2)
      (knowsC_shown rfl rfl) (Tree.ok_of_check (by kernel_rfl)) rfl W (ext_two hB hC rfl)
    rw [hval, hval1]; exact h
end Go.Proofs.Ytopgidgkpafeeaa
