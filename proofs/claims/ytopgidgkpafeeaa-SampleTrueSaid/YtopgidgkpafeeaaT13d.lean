/- Law 13: SampleTrue. -/
import Derived.Test.YtopgidgkpafeeaaT13c
namespace Go.Proofs.Ytopgidgkpafeeaa
open Go Go.RowKit Ev
set_option linter.unusedVariables false
set_option linter.unusedSimpArgs false
set_option maxRecDepth 100000

abbrev stP : IE := (.ap 3 (.lit 4294967296) (.pl .sub (.ar .rem .i64 (.var 5) (.lit 20)) (.lit 10)) (.lit 0))
def stT : Tree :=
(.node (.cmp .lss (.pl .sub (.var 6) (.var 1)) (.lit 0))
 (.node (.cmp .lss (.ar .add .i64 (.ar .quo .i64 (.mx (.ap 2 (.mx (.pl .add (.pl .add (.var 2) (.var 4)) (.var 3)) (.lit (-9223372036854775807))) (.mx (.var 4) (.lit (-9223372036854775807))) (.lit 0)) stP) (.lit 2)) (.lit 1)) (.pl .sub (.lit 0) (.pl .sub (.var 6) (.var 1))))
 (.leaf (.bool (.lit false)))
 (.node (.cmp .lss (.mx (.ap 2 (.mx (.pl .add (.pl .add (.var 2) (.var 4)) (.var 3)) (.lit (-9223372036854775807))) (.mx (.var 4) (.lit (-9223372036854775807))) (.lit 0)) stP) (.pl .add (.var 2) (.var 3)))
 (.leaf (.bool (.lit false)))
 (.node (.cmp .lss (.var 1) (.ap 2 (.ap 2 (.ap 2 (.var 6) (.lit 0) (.lit 0)) (.ap 2 (.lit 0) (.ap 3 (.ap 2 (.lit 0) (.mx (.ap 2 (.mx (.pl .add (.pl .add (.var 2) (.var 4)) (.var 3)) (.lit (-9223372036854775807))) (.mx (.var 4) (.lit (-9223372036854775807))) (.lit 0)) stP) (.lit 0)) (.lit (-1)) (.lit 0)) (.lit 0)) (.lit 0)) (.mn (.lit 68719476736) (.ap 1 (.ap 1 (.ap 1 (.lit 4294967296) stP (.lit 0)) (.ap 4 (.lit 64424) (.mx (.pl .add (.pl .add (.var 2) (.var 4)) (.var 3)) (.lit (-9223372036854775807))) (.lit 0)) (.lit 0)) (.lit 0) (.lit 0))) (.lit 0)))
 (.leaf (.bool (.lit false)))
 (.leaf (.bool (.cmp .leq (.var 1) (.ap 1 (.ap 1 (.ap 2 (.var 6) (.lit 0) (.lit 0)) (.ap 2 (.lit 0) (.ap 3 (.ap 2 (.lit 0) (.mx (.ap 2 (.mx (.pl .add (.pl .add (.var 2) (.var 4)) (.var 3)) (.lit (-9223372036854775807))) (.mx (.var 4) (.lit (-9223372036854775807))) (.lit 0)) stP) (.lit 0)) (.lit (-1)) (.lit 0)) (.lit 0)) (.lit 0)) (.mn (.lit 68719476736) (.ap 1 (.ap 1 (.ap 1 (.lit 4294967296) stP (.lit 0)) (.ap 4 (.lit 64424) (.mx (.pl .add (.pl .add (.var 2) (.var 4)) (.var 3)) (.lit (-9223372036854775807))) (.lit 0)) (.lit 0)) (.lit 0) (.lit 0))) (.lit 0))))))))
 (.node (.cmp .lss (.ar .add .i64 (.ar .quo .i64 (.mx (.ap 2 (.mx (.pl .add (.pl .add (.var 2) (.var 4)) (.var 3)) (.lit (-9223372036854775807))) (.mx (.var 4) (.lit (-9223372036854775807))) (.lit 0)) stP) (.lit 2)) (.lit 1)) (.pl .sub (.var 6) (.var 1)))
 (.leaf (.bool (.lit false)))
 (.node (.cmp .lss (.mx (.ap 2 (.mx (.pl .add (.pl .add (.var 2) (.var 4)) (.var 3)) (.lit (-9223372036854775807))) (.mx (.var 4) (.lit (-9223372036854775807))) (.lit 0)) stP) (.pl .add (.var 2) (.var 3)))
 (.leaf (.bool (.lit false)))
 (.node (.cmp .lss (.var 1) (.ap 2 (.ap 2 (.ap 2 (.var 6) (.lit 0) (.lit 0)) (.ap 2 (.lit 0) (.ap 3 (.ap 2 (.lit 0) (.mx (.ap 2 (.mx (.pl .add (.pl .add (.var 2) (.var 4)) (.var 3)) (.lit (-9223372036854775807))) (.mx (.var 4) (.lit (-9223372036854775807))) (.lit 0)) stP) (.lit 0)) (.lit (-1)) (.lit 0)) (.lit 0)) (.lit 0)) (.mn (.lit 68719476736) (.ap 1 (.ap 1 (.ap 1 (.lit 4294967296) stP (.lit 0)) (.ap 4 (.lit 64424) (.mx (.pl .add (.pl .add (.var 2) (.var 4)) (.var 3)) (.lit (-9223372036854775807))) (.lit 0)) (.lit 0)) (.lit 0) (.lit 0))) (.lit 0)))
 (.leaf (.bool (.lit false)))
 (.leaf (.bool (.cmp .leq (.var 1) (.ap 1 (.ap 1 (.ap 2 (.var 6) (.lit 0) (.lit 0)) (.ap 2 (.lit 0) (.ap 3 (.ap 2 (.lit 0) (.mx (.ap 2 (.mx (.pl .add (.pl .add (.var 2) (.var 4)) (.var 3)) (.lit (-9223372036854775807))) (.mx (.var 4) (.lit (-9223372036854775807))) (.lit 0)) stP) (.lit 0)) (.lit (-1)) (.lit 0)) (.lit 0)) (.lit 0)) (.mn (.lit 68719476736) (.ap 1 (.ap 1 (.ap 1 (.lit 4294967296) stP (.lit 0)) (.ap 4 (.lit 64424) (.mx (.pl .add (.pl .add (.var 2) (.var 4)) (.var 3)) (.lit (-9223372036854775807))) (.lit 0)) (.lit 0)) (.lit 0) (.lit 0))) (.lit 0)))))))))
abbrev stRc : IE := .ar .add .u64 (.ar .add .u64 (.var 0) (.wr .u64 (.var 1))) (.var 2)
abbrev stSn : IE := .ar .add .u64 stRc (.var 4)
abbrev stBk : IE := .ar .add .u64 (.ar .sub .u64 stSn (.wr .u64 (.var 1))) (.var 3)
abbrev stN : List (IE × IE) := [(.wr .i64 (.ar .sub .u64 stRc (.var 0)), .pl .add (.var 1) (.var 2)), (.wr .i64 (.ar .sub .u64 stSn stBk), .pl .sub (.var 1) (.var 3)), (.wr .i64 (.ar .sub .u64 stBk (.var 0)), .pl .add (.pl .add (.var 2) (.var 4)) (.var 3)), (.wr .i64 (.ar .sub .u64 stSn stRc), .var 4)]
abbrev stR : List (Int × Int) := [u64P, (-2147483648, 2147483647), (0, 4294967295), (0, 4294967295), (0, 4294967295), (-128, 127), (-4294967296, 8589934592)]
abbrev stK : List (FuncId × List SV × SV) := k13 ++ [(52, [.agg [.int .u64 (.var 0), .int .u64 stRc, .int .u64 stSn, .int .u64 stBk]], .int .i64 (.var 6))]
abbrev stA : List SV := [.int .u64 (.var 0), .int .i32 (.var 1), .int .u32 (.var 2), .int .u32 (.var 3), .int .u32 (.var 4), .int .i8 (.var 5)]
theorem st_ok : stT.check Try.prog { pc := [], cr := stK ++ crS, rg := stR, ar := arN, ct := conCt stR arN consN, lp := fun _ _ _ => none, xs := [], nm := stN } 1000 5 stA = true := by kernel_rfl
def p3 (n : Int) : Int := sat (if n ≤ 0 then 4294967296 / 2 ^ (min 63 (-n).toNat) else 4294967296 * 2 ^ (min n.toNat 64))
theorem p3_in {n : Int} (h : -29 ≤ n ∧ n ≤ 9) : 8 ≤ p3 n ∧ p3 n ≤ 2199023255552 := by
  obtain ⟨k, rfl⟩ : ∃ k : Nat, n = (k : Int) - 29 := ⟨(n + 29).toNat, by omega⟩
  have key : ∀ k : Nat, k < 39 → 8 ≤ p3 ((k : Int) - 29) ∧ p3 ((k : Int) - 29) ≤ 2199023255552 := by decide
  exact key k (by omega)
theorem stT_good {ρ : Env} (ha : ρ.a = apN) {off th bk sy ow : Int} (i1 : ρ.i 1 = off) (i2 : ρ.i 2 = th) (i3 : ρ.i 3 = bk) (i4 : ρ.i 4 = sy) (i5 : ρ.i 5 = ow) (i6 : ρ.i 6 = off + (th - bk) / 2)
    (h1 : -2147483648 ≤ off ∧ off ≤ 2147483647) (h2 : 0 ≤ th ∧ th ≤ 4294967295) (h3 : 0 ≤ bk ∧ bk ≤ 4294967295) (h4 : 0 ≤ sy ∧ sy ≤ 4294967295) (h5 : -128 ≤ ow ∧ ow ≤ 127) : good ρ stT = true := by
  have hr : -19 ≤ ow.tmod 20 ∧ ow.tmod 20 ≤ 19 := by
    have := Int.tmod_lt_of_pos ow (show (0 : Int) < 20 by decide)
    have := Int.lt_tmod_of_pos ow (show (0 : Int) < 20 by decide)
    omega
  obtain ⟨P, hP, hP1⟩ : ∃ P, ρ.a 3 4294967296 (arI .rem .i64 (ρ.i 5) 20 - 10) 0 = P ∧ 8 ≤ P ∧ P ≤ 2199023255552 := by
    refine ⟨_, rfl, ?_⟩
    show 8 ≤ ρ.a 3 4294967296 ((ρ.i 5).tmod 20 - 10) 0 ∧ ρ.a 3 4294967296 ((ρ.i 5).tmod 20 - 10) 0 ≤ _
    rw [ha, i5]
    exact p3_in (n := ow.tmod 20 - 10) (by omega)
  have mn : ∀ a b : Int, mnI a b = min a b := fun a b => by unfold mnI; split <;> omega
  have e1 : ∀ x y z, ρ.a 1 x y z = sat (x + y) := fun x y z => by rw [ha]; rfl
  have e2 : ∀ x y z, ρ.a 2 x y z = sat (x - y) := fun x y z => by rw [ha]; rfl
  have e4 : ∀ x y z, ρ.a 4 x y z = sat (x * y / 4294967296) := fun x y z => by rw [ha]; rfl
  have e3 : ∀ x, ρ.a 3 x (-1) 0 = sat (x / 2) := fun x => by rw [ha]; rfl
  have w1 : ∀ z : Int, 0 ≤ z → z ≤ 4611686018427387904 → arI .add .i64 (arI .quo .i64 z 2) 1 = z / 2 + 1 := fun z h1 h2 => by
    show IntKind.i64.wrap (IntKind.i64.wrap (z.tdiv 2) + 1) = _
    rw [Int.tdiv_eq_ediv_of_nonneg h1, IntKind.wrap_i64, IntKind.wrap_i64]; omega
  simp only [stT, good, BE.den, cmpI, IE.den, i1, i2, i3, i4, i6, plI, mxI_le, mn, e1, e2, e3, e4, hP]
  have t1 : max (th + sy + bk) (-9223372036854775807) = th + sy + bk := by omega
  have t2 : max sy (-9223372036854775807) = sy := by omega
  rw [t1, t2]
  have t3 : sat (th + sy + bk - sy) = th + bk := by unfold sat; omega
  rw [t3]
  have t4 : 0 ≤ sat (64424 * (th + sy + bk) / 4294967296) ∧ sat (64424 * (th + sy + bk) / 4294967296) ≤ 1000000 := by unfold sat; omega
  generalize sat (64424 * (th + sy + bk) / 4294967296) = m4 at *
  have t5 : sat (sat (sat (4294967296 + P) + m4) + 0) = 4294967296 + P + m4 := by unfold sat; omega
  rw [t5]
  have t6 : 0 ≤ max (th + bk) P ∧ max (th + bk) P ≤ 4611686018427387904 ∧ th + bk ≤ max (th + bk) P := by omega
  generalize max (th + bk) P = D at *
  rw [w1 D t6.1 t6.2.1]
  have t7 : sat (0 - sat (sat (0 - D) / 2)) = (D + 1) / 2 := by unfold sat; omega
  rw [t7]
  have t8 : 0 ≤ min 68719476736 (4294967296 + P + m4) ∧ min 68719476736 (4294967296 + P + m4) ≤ 68719476736 := by omega
  generalize min 68719476736 (4294967296 + P + m4) = A at *
  have t9 : sat (sat (sat (off + (th - bk) / 2 - 0) - (D + 1) / 2) - A) ≤ off := by unfold sat; omega
  have t10 : off ≤ sat (sat (sat (off + (th - bk) / 2 - 0) + (D + 1) / 2) + A) := by unfold sat; omega
  have c1 : ¬ D < th + bk := by omega
  have c2 : ¬ off < sat (sat (sat (off + (th - bk) / 2 - 0) - (D + 1) / 2) - A) := by omega
  have c3 : ¬ D / 2 + 1 < 0 - (off + (th - bk) / 2 - off) := by omega
  have c4 : ¬ D / 2 + 1 < off + (th - bk) / 2 - off := by omega
  rw [decide_eq_false c1, decide_eq_false c2, decide_eq_false c3, decide_eq_false c4, decide_eq_true t10]
  cases decide (off + (th - bk) / 2 - off < 0) <;> rfl
theorem sampleTrue_walk (ak off th bk sy ow : Int) (h0 : 0 ≤ ak ∧ ak ≤ 18446744073709551615) (h1 : -2147483648 ≤ off ∧ off ≤ 2147483647) (h2 : 0 ≤ th ∧ th ≤ 4294967295) (h3 : 0 ≤ bk ∧ bk ≤ 4294967295) (h4 : 0 ≤ sy ∧ sy ≤ 4294967295) (h5 : -128 ≤ ow ∧ ow ≤ 127) (w : World) :
    Calls Try.prog 5 #[.int .u64 ak, .int .i32 off, .int .u32 th, .int .u32 bk, .int .u32 sy, .int .i8 ow] w fun e w' => e = .returned (.bool true) ∧ Below w.heap.size w w' := by
  have e1 : IE.den (envOf [ak, off, th, bk, sy, ow, off + (th - bk) / 2] (ap := apN)) stRc = (ak + off + th) % 18446744073709551616 := by
    show IntKind.u64.wrap (IntKind.u64.wrap (ak + IntKind.u64.wrap off) + th) = _
    rw [IntKind.wrap_u64, IntKind.wrap_u64, IntKind.wrap_u64]; omega
  have e2 : IE.den (envOf [ak, off, th, bk, sy, ow, off + (th - bk) / 2] (ap := apN)) stSn = (ak + off + th + sy) % 18446744073709551616 := by
    show IntKind.u64.wrap (IE.den _ stRc + sy) = _
    rw [e1, IntKind.wrap_u64]; omega
  have e3 : IE.den (envOf [ak, off, th, bk, sy, ow, off + (th - bk) / 2] (ap := apN)) stBk = (ak + th + sy + bk) % 18446744073709551616 := by
    show IntKind.u64.wrap (IntKind.u64.wrap (IE.den _ stSn - IntKind.u64.wrap off) + bk) = _
    rw [e2, IntKind.wrap_u64, IntKind.wrap_u64, IntKind.wrap_u64]; omega
  have hg := stT_good (ρ := envOf [ak, off, th, bk, sy, ow, off + (th - bk) / 2] (ap := apN)) rfl (off := off) (th := th) (bk := bk) (sy := sy) (ow := ow) rfl rfl rfl rfl rfl rfl h1 h2 h3 h4 h5
  refine law_good (ρ := envOf [ak, off, th, bk, sy, ow, off + (th - bk) / 2] (ap := apN)) (rg := stR) (ar := arN) (args := stA) ⟨h0, h1, h2, h3, h4, h5, ⟨by show -4294967296 ≤ off + (th - bk) / 2; omega, by show off + (th - bk) / 2 ≤ 8589934592; omega⟩, trivial⟩ (numA_N rfl) (arIn_N rfl) (cr := stK) (fun c hc => ?_) LpOk.none (xs := []) (fun _ _ h => by cases h) (nm := stN) (fun p hp => ?_) stT (Tree.ok_of_check st_ok) hg w (ExtIn.none fun _ => rfl)
  · rcases List.mem_append.1 hc with hc | hc
    · exact k13_ok c hc
    · rw [List.mem_singleton.1 hc]
      intro φ w _
      have key := offset_any ak ((ak + off + th) % 18446744073709551616) ((ak + off + th + sy) % 18446744073709551616) ((ak + th + sy + bk) % 18446744073709551616) h0 (by omega) (by omega) (by omega) w
      have d1 : eDiff ((ak + off + th) % 18446744073709551616) ak = off + th := by unfold eDiff; rw [IntKind.wrap_i64]; omega
      have d2 : eDiff ((ak + off + th + sy) % 18446744073709551616) ((ak + th + sy + bk) % 18446744073709551616) = off - bk := by unfold eDiff; rw [IntKind.wrap_i64]; omega
      rw [d1, d2, show (off + th + (off - bk)) / 2 = off + (th - bk) / 2 by omega] at key
      show Calls _ _ #[.agg #[.int .u64 ak, .int .u64 (IE.den _ stRc), .int .u64 (IE.den _ stSn), .int .u64 (IE.den _ stBk)]] w _
      rw [e1, e2, e3]
      exact key
  · simp only [stN, List.mem_cons, List.not_mem_nil, or_false] at hp
    rcases hp with rfl | rfl | rfl | rfl
    · show IntKind.i64.wrap (arI .sub .u64 (IE.den _ stRc) ak) = off + th
      rw [wr_u64, e1, IntKind.wrap_i64]; omega
    · show IntKind.i64.wrap (arI .sub .u64 (IE.den _ stSn) (IE.den _ stBk)) = off - bk
      rw [wr_u64, e2, e3, IntKind.wrap_i64]; omega
    · show IntKind.i64.wrap (arI .sub .u64 (IE.den _ stBk) ak) = th + sy + bk
      rw [wr_u64, e3, IntKind.wrap_i64]; omega
    · show IntKind.i64.wrap (arI .sub .u64 (IE.den _ stSn) (IE.den _ stRc)) = sy
      rw [wr_u64, e2, e1, IntKind.wrap_i64]; omega
end Go.Proofs.Ytopgidgkpafeeaa
