/- Chapter 9: Pack by its contract. -/
import Derived.Test.YtlbjcbcaaiggdaaT09
import Derived.Test.YtlbjcbcaaiggdaaXo
namespace Go.Proofs.Ytlbjcbcaaiggdaa
open Go Go.RowKit Ev
set_option linter.unusedVariables false
set_option linter.unusedSimpArgs false
set_option maxRecDepth 100000

theorem mixed09 : Try.prog.follows .mixedOrders = true := by kernel_rfl
/-- the bytes of a slot, as the program reckons them -/
def pkE : List IE := [(.lit 1), (.ar .shr .u32 (.var 0) (.lit 24)), (.wr .u8 (.ar .shr .u32 (.var 0) (.lit 16))), (.wr .u8 (.ar .shr .u32 (.var 0) (.lit 8))), (.wr .u8 (.ar .shr .u32 (.var 0) (.lit 0))), (.ar .shr .u64 (.wr .u64 (.var 1)) (.lit 56)), (.wr .u8 (.ar .shr .u64 (.wr .u64 (.var 1)) (.lit 48))), (.wr .u8 (.ar .shr .u64 (.wr .u64 (.var 1)) (.lit 40))), (.wr .u8 (.ar .shr .u64 (.wr .u64 (.var 1)) (.lit 32))), (.wr .u8 (.ar .shr .u64 (.wr .u64 (.var 1)) (.lit 24))), (.wr .u8 (.ar .shr .u64 (.wr .u64 (.var 1)) (.lit 16))), (.wr .u8 (.ar .shr .u64 (.wr .u64 (.var 1)) (.lit 8))), (.wr .u8 (.ar .shr .u64 (.wr .u64 (.var 1)) (.lit 0))), (.ar .add .u8 (.ar .add .u8 (.ar .add .u8 (.ar .add .u8 (.ar .add .u8 (.ar .add .u8 (.ar .add .u8 (.ar .add .u8 (.ar .add .u8 (.ar .add .u8 (.ar .add .u8 (.pl .add (.lit 0) (.ar .shr .u32 (.var 0) (.lit 24))) (.wr .u8 (.ar .shr .u32 (.var 0) (.lit 16)))) (.wr .u8 (.ar .shr .u32 (.var 0) (.lit 8)))) (.wr .u8 (.ar .shr .u32 (.var 0) (.lit 0)))) (.ar .shr .u64 (.wr .u64 (.var 1)) (.lit 56))) (.wr .u8 (.ar .shr .u64 (.wr .u64 (.var 1)) (.lit 48)))) (.wr .u8 (.ar .shr .u64 (.wr .u64 (.var 1)) (.lit 40)))) (.wr .u8 (.ar .shr .u64 (.wr .u64 (.var 1)) (.lit 32)))) (.wr .u8 (.ar .shr .u64 (.wr .u64 (.var 1)) (.lit 24)))) (.wr .u8 (.ar .shr .u64 (.wr .u64 (.var 1)) (.lit 16)))) (.wr .u8 (.ar .shr .u64 (.wr .u64 (.var 1)) (.lit 8)))) (.wr .u8 (.ar .shr .u64 (.wr .u64 (.var 1)) (.lit 0)))), (.ar .add .u8 (.ar .add .u8 (.ar .add .u8 (.ar .add .u8 (.ar .add .u8 (.ar .add .u8 (.ar .add .u8 (.ar .add .u8 (.ar .add .u8 (.ar .add .u8 (.ar .add .u8 (.pl .add (.lit 0) (.pl .mul (.ar .shr .u32 (.var 0) (.lit 24)) (.lit 1))) (.ar .mul .u8 (.wr .u8 (.ar .shr .u32 (.var 0) (.lit 16))) (.lit 2))) (.ar .mul .u8 (.wr .u8 (.ar .shr .u32 (.var 0) (.lit 8))) (.lit 3))) (.ar .mul .u8 (.wr .u8 (.ar .shr .u32 (.var 0) (.lit 0))) (.lit 4))) (.ar .mul .u8 (.ar .shr .u64 (.wr .u64 (.var 1)) (.lit 56)) (.lit 5))) (.ar .mul .u8 (.wr .u8 (.ar .shr .u64 (.wr .u64 (.var 1)) (.lit 48))) (.lit 6))) (.ar .mul .u8 (.wr .u8 (.ar .shr .u64 (.wr .u64 (.var 1)) (.lit 40))) (.lit 7))) (.ar .mul .u8 (.wr .u8 (.ar .shr .u64 (.wr .u64 (.var 1)) (.lit 32))) (.lit 8))) (.ar .mul .u8 (.wr .u8 (.ar .shr .u64 (.wr .u64 (.var 1)) (.lit 24))) (.lit 9))) (.ar .mul .u8 (.wr .u8 (.ar .shr .u64 (.wr .u64 (.var 1)) (.lit 16))) (.lit 10))) (.ar .mul .u8 (.wr .u8 (.ar .shr .u64 (.wr .u64 (.var 1)) (.lit 8))) (.lit 11))) (.ar .mul .u8 (.wr .u8 (.ar .shr .u64 (.wr .u64 (.var 1)) (.lit 0))) (.lit 12))), (.lit 0)]
abbrev u32R9 : Int × Int := (0, 4294967295)
abbrev i64R9 : Int × Int := (-9223372036854775808, 9223372036854775807)
abbrev byR9 : Int × Int := (0, 255)
def pkI (s f : Int) (j : Nat) : Int := (pkE.map (IE.den (envOf [s, f]))).getD j 0
theorem pk_len : pkE.length = 16 := rfl
theorem pk_in {s f : Int} (hs : 0 ≤ s ∧ s ≤ 4294967295) (hf : -9223372036854775808 ≤ f ∧ f ≤ 9223372036854775807) (j : Nat) : Byt (pkI s f j) := by
  have hX : Knows (envOf [s, f]) { pc := [], rg := [u32R9, i64R9] } := knows_env rfl ⟨hs, hf, trivial⟩ (fun f v h => by cases h)
  have h := bytesFit_ok hX (l := pkE) (by kernel_rfl)
  unfold pkI
  rw [List.getD_eq_getElem?_getD, List.getElem?_map]
  by_cases hj : j < 16
  · rw [List.getElem?_eq_getElem (by rw [pk_len]; exact hj)]
    exact h _ (List.getElem_mem _)
  · rw [List.getElem?_eq_none (by rw [pk_len]; omega)]
    exact ⟨Int.le_refl 0, (by decide : (0 : Int) ≤ 255)⟩
theorem pack_any (s f : Int) (hs : 0 ≤ s ∧ s ≤ 4294967295) (hf : -9223372036854775808 ≤ f ∧ f ≤ 9223372036854775807) (w : World) :
    Calls Try.prog 7 #[.int .u32 s, .int .i64 f] w fun e w' => e = .returned (.string (bytesI (pkE.map (IE.den (envOf [s, f]))))) ∧ Below w.heap.size w w' :=
  tree_sound (P := Try.prog) mixed09 (ρ := envOf [s, f]) (n := 400) (f := 7) (args := [.int .u32 (.var 0), .int .i64 (.var 1)]) (.leaf (.bts pkE)) (X := { pc := [], rg := [u32R9, i64R9] })
    (knows_env rfl ⟨hs, hf, trivial⟩ (fun f v h => by cases h)) (knowsC_none rfl rfl rfl) (Tree.ok_of_check (by kernel_rfl)) rfl w
/-- the names of chapter 9: 0 a byte of Pack, 1 what is there behind the law's string was copied; from 20 on the caller's slice -/
def mixI (S : ByteArray) (i x : Int) : Int := if i.toNat < S.size then (S.data.toList.map fun b => (b.toNat : Int)).getD i.toNat 0 else max 0 (min 255 x)
noncomputable def apD (S : ByteArray) (rows : List (Int → Int)) (f : Nat) (a b c : Int) : Int :=
  if f = 0 then pkI a b c.toNat % 256 else if f = 1 then mixI S a b else if f < 20 then 0 else (rows.getD (f - 20) (fun _ => 0)) a
theorem mix_in (S : ByteArray) (i x : Int) : Byt (mixI S i x) := by
  unfold mixI
  split
  · rw [List.getD_eq_getElem?_getD]
    cases h : (S.data.toList.map fun b => (b.toNat : Int))[i.toNat]? with
    | none => exact ⟨Int.le_refl 0, (by decide : (0 : Int) ≤ 255)⟩
    | some v =>
      obtain ⟨b, _, rfl⟩ := List.mem_map.1 (List.mem_of_getElem? h)
      have := b.toNat_lt
      exact ⟨Int.natCast_nonneg _, by show ((b.toNat : Nat) : Int) ≤ 255; omega⟩
  · exact ⟨by omega, by omega⟩
abbrev arD0 : List (Int × Int) := [byR9, byR9] ++ List.replicate 18 (0, 0)
theorem arD_ok {S : ByteArray} {rows : List (Int → Int)} {l : List (Int × Int)} (hr : ∀ (i : Nat) v, l[i]? = some v → ∀ a, v.1 ≤ (rows.getD i (fun _ => 0)) a ∧ (rows.getD i (fun _ => 0)) a ≤ v.2) : ∀ (f : Nat) v, (arD0 ++ l)[f]? = some v → ∀ a b c, v.1 ≤ apD S rows f a b c ∧ apD S rows f a b c ≤ v.2 := by
  intro f v h a b c
  unfold apD
  by_cases h0 : f = 0
  · subst h0; cases h; rw [if_pos rfl]; exact ⟨by show 0 ≤ _; omega, by show _ ≤ 255; omega⟩
  · by_cases h1 : f = 1
    · subst h1; cases h; rw [if_neg h0, if_pos rfl]; exact mix_in _ _ _
    · rw [if_neg h0, if_neg h1]
      by_cases hf : f < 20
      · rw [if_pos hf]
        rw [List.getElem?_append_left (by simpa using hf)] at h
        obtain ⟨k, rfl⟩ : ∃ k, f = k + 2 := ⟨f - 2, by omega⟩
        have h2 : (List.replicate 18 ((0 : Int), (0 : Int)))[k]? = some v := h
        rw [List.getElem?_replicate, if_pos (by omega)] at h2
        cases h2
        exact ⟨Int.le_refl _, Int.le_refl _⟩
      · rw [if_neg hf]
        rw [List.getElem?_append_right (by simp; omega)] at h
        exact hr (f - 20) v (by simpa using h) a
theorem arD0_ok {S : ByteArray} {rows : List (Int → Int)} : ∀ (f : Nat) v, arD0[f]? = some v → ∀ a b c, v.1 ≤ apD S rows f a b c ∧ apD S rows f a b c ≤ v.2 := by
  intro f v h
  exact arD_ok (l := []) (fun i v h => by cases h) f v (by rw [List.append_nil]; exact h)
/-- an environment has the name of Pack -/
def PkA (ρ : Env) : Prop := ∀ a b c, ρ.a 0 a b c = pkI a b c.toNat % 256
theorem pkA_D {ρ : Env} {S : ByteArray} {rows : List (Int → Int)} (h : ρ.a = apD S rows) : PkA ρ := fun a b c => by rw [h]; rfl
def pB (a b : IE) : List IE := [.lit 1, .ap 0 a b (.lit 1), .ap 0 a b (.lit 2), .ap 0 a b (.lit 3), .ap 0 a b (.lit 4), .ap 0 a b (.lit 5), .ap 0 a b (.lit 6), .ap 0 a b (.lit 7), .ap 0 a b (.lit 8), .ap 0 a b (.lit 9), .ap 0 a b (.lit 10), .ap 0 a b (.lit 11), .ap 0 a b (.lit 12), .ap 0 a b (.lit 13), .ap 0 a b (.lit 14), .lit 0]
theorem pB_den {ρ : Env} (ha : PkA ρ) {a b : IE} (hs : 0 ≤ a.den ρ ∧ a.den ρ ≤ 4294967295) (hf : -9223372036854775808 ≤ b.den ρ ∧ b.den ρ ≤ 9223372036854775807) : (pB a b).map (IE.den ρ) = pkE.map (IE.den (envOf [a.den ρ, b.den ρ])) := by
  have e : ∀ j : Nat, ρ.a 0 (a.den ρ) (b.den ρ) j = pkI (a.den ρ) (b.den ρ) j := by
    intro j
    have := pk_in hs hf j
    rw [ha, Int.toNat_natCast]; omega
  have e2 : pkE.map (IE.den (envOf [a.den ρ, b.den ρ])) = (List.range 16).map (pkI (a.den ρ) (b.den ρ)) := rfl
  rw [e2]
  simp only [pB, List.map_cons, List.map_nil, IE.den]
  have k := fun j => e j
  rw [show ρ.a 0 (a.den ρ) (b.den ρ) 1 = _ from k 1, show ρ.a 0 (a.den ρ) (b.den ρ) 2 = _ from k 2, show ρ.a 0 (a.den ρ) (b.den ρ) 3 = _ from k 3, show ρ.a 0 (a.den ρ) (b.den ρ) 4 = _ from k 4, show ρ.a 0 (a.den ρ) (b.den ρ) 5 = _ from k 5, show ρ.a 0 (a.den ρ) (b.den ρ) 6 = _ from k 6, show ρ.a 0 (a.den ρ) (b.den ρ) 7 = _ from k 7, show ρ.a 0 (a.den ρ) (b.den ρ) 8 = _ from k 8, show ρ.a 0 (a.den ρ) (b.den ρ) 9 = _ from k 9, show ρ.a 0 (a.den ρ) (b.den ρ) 10 = _ from k 10, show ρ.a 0 (a.den ρ) (b.den ρ) 11 = _ from k 11, show ρ.a 0 (a.den ρ) (b.den ρ) 12 = _ from k 12, show ρ.a 0 (a.den ρ) (b.den ρ) 13 = _ from k 13, show ρ.a 0 (a.den ρ) (b.den ρ) 14 = _ from k 14]
  rfl
def packCon : Con := ⟨7, [.u32, .i64], fun es => match es with | [a, b] => .bts (pB a b) | _ => .any⟩
theorem packCon_ok {ρ : Env} (ha : PkA ρ) : packCon.holds Try.prog ρ := by
  intro es h φ w
  match es, h with
  | [a, b], h =>
    obtain ⟨h0, h1, _⟩ := h
    have h0 : 0 ≤ a.den ρ ∧ a.den ρ ≤ 4294967295 := h0
    have h1 : -9223372036854775808 ≤ b.den ρ ∧ b.den ρ ≤ 9223372036854775807 := h1
    refine (pack_any (a.den ρ) (b.den ρ) h0 h1 w).mono ?_
    rintro e' w' ⟨rfl, hb⟩
    refine ⟨?_, hb⟩
    show _ = Ending.returned (.string (bytesI ((pB a b).map (IE.den ρ))))
    rw [pB_den ha h0 h1]
/-- numbers, put together out of Pack's bytes -/
abbrev seqE (a b : IE) : IE := catE .u32 [.ap 0 a b (.lit 1), .ap 0 a b (.lit 2), .ap 0 a b (.lit 3), .ap 0 a b (.lit 4)]
abbrev freqE (a b : IE) : IE := .wr .i64 (catE .u64 [.ap 0 a b (.lit 5), .ap 0 a b (.lit 6), .ap 0 a b (.lit 7), .ap 0 a b (.lit 8), .ap 0 a b (.lit 9), .ap 0 a b (.lit 10), .ap 0 a b (.lit 11), .ap 0 a b (.lit 12)])
theorem shr_by (k : IntKind) (x : Int) (n : Int) (p : Int) (hp : 0 ≤ p) (h : (2 : Int) ^ (min n.toNat k.bits) = p) : arI .shr k x n = x / p := by
  show x.fdiv (2 ^ (min n.toNat k.bits)) = _
  rw [h, Int.fdiv_eq_ediv_of_nonneg _ hp]
theorem pk_seq {s f : Int} (hs : 0 ≤ s ∧ s ≤ 4294967295) : pkI s f 1 = s / 16777216 ∧ pkI s f 2 = s / 65536 % 256 ∧ pkI s f 3 = s / 256 % 256 ∧ pkI s f 4 = s % 256 := by
  have e1 := shr_by .u32 s 24 16777216 (by decide) rfl
  have e2 := shr_by .u32 s 16 65536 (by decide) rfl
  have e3 := shr_by .u32 s 8 256 (by decide) rfl
  have e4 := shr_by .u32 s 0 1 (by decide) rfl
  refine ⟨e1, ?_, ?_, ?_⟩
  · show IntKind.u8.wrap (arI .shr .u32 s 16) = _
    rw [e2, IntKind.wrap_u8]
  · show IntKind.u8.wrap (arI .shr .u32 s 8) = _
    rw [e3, IntKind.wrap_u8]
  · show IntKind.u8.wrap (arI .shr .u32 s 0) = _
    rw [e4, IntKind.wrap_u8, Int.ediv_one]
theorem pk_freq (s f : Int) : pkI s f 5 = f % 18446744073709551616 / 72057594037927936 ∧ pkI s f 6 = f % 18446744073709551616 / 281474976710656 % 256 ∧ pkI s f 7 = f % 18446744073709551616 / 1099511627776 % 256 ∧ pkI s f 8 = f % 18446744073709551616 / 4294967296 % 256 ∧ pkI s f 9 = f % 18446744073709551616 / 16777216 % 256 ∧ pkI s f 10 = f % 18446744073709551616 / 65536 % 256 ∧ pkI s f 11 = f % 18446744073709551616 / 256 % 256 ∧ pkI s f 12 = f % 18446744073709551616 % 256 := by
  have eU : IntKind.u64.wrap f = f % 18446744073709551616 := IntKind.wrap_u64 f
  refine ⟨?_, ?_, ?_, ?_, ?_, ?_, ?_, ?_⟩
  · show arI .shr .u64 (IntKind.u64.wrap f) 56 = _
    rw [shr_by .u64 _ 56 72057594037927936 (by decide) rfl, eU]
  · show IntKind.u8.wrap (arI .shr .u64 (IntKind.u64.wrap f) 48) = _
    rw [shr_by .u64 _ 48 281474976710656 (by decide) rfl, eU, IntKind.wrap_u8]
  · show IntKind.u8.wrap (arI .shr .u64 (IntKind.u64.wrap f) 40) = _
    rw [shr_by .u64 _ 40 1099511627776 (by decide) rfl, eU, IntKind.wrap_u8]
  · show IntKind.u8.wrap (arI .shr .u64 (IntKind.u64.wrap f) 32) = _
    rw [shr_by .u64 _ 32 4294967296 (by decide) rfl, eU, IntKind.wrap_u8]
  · show IntKind.u8.wrap (arI .shr .u64 (IntKind.u64.wrap f) 24) = _
    rw [shr_by .u64 _ 24 16777216 (by decide) rfl, eU, IntKind.wrap_u8]
  · show IntKind.u8.wrap (arI .shr .u64 (IntKind.u64.wrap f) 16) = _
    rw [shr_by .u64 _ 16 65536 (by decide) rfl, eU, IntKind.wrap_u8]
  · show IntKind.u8.wrap (arI .shr .u64 (IntKind.u64.wrap f) 8) = _
    rw [shr_by .u64 _ 8 256 (by decide) rfl, eU, IntKind.wrap_u8]
  · show IntKind.u8.wrap (arI .shr .u64 (IntKind.u64.wrap f) 0) = _
    rw [shr_by .u64 _ 0 1 (by decide) rfl, eU, IntKind.wrap_u8, Int.ediv_one]
theorem pk_ap {ρ : Env} (ha : PkA ρ) {a b : IE} (hs : 0 ≤ a.den ρ ∧ a.den ρ ≤ 4294967295) (hf : -9223372036854775808 ≤ b.den ρ ∧ b.den ρ ≤ 9223372036854775807) (j : Nat) : (IE.ap 0 a b (.lit (j : Int))).den ρ = pkI (a.den ρ) (b.den ρ) j := by
  have := pk_in hs hf j
  show ρ.a 0 (a.den ρ) (b.den ρ) (j : Int) = _
  rw [ha, Int.toNat_natCast]; omega
theorem pk_byt {ρ : Env} (ha : PkA ρ) (a b : IE) (j : Int) : Byt ((IE.ap 0 a b (.lit j)).den ρ) := by
  show Byt (ρ.a 0 (a.den ρ) (b.den ρ) j)
  rw [ha]
  exact ⟨by omega, by omega⟩
theorem seqE_den {ρ : Env} (ha : PkA ρ) {a b : IE} (hs : 0 ≤ a.den ρ ∧ a.den ρ ≤ 4294967295) (hf : -9223372036854775808 ≤ b.den ρ ∧ b.den ρ ≤ 9223372036854775807) : (seqE a b).den ρ = a.den ρ := by
  rw [cat4 (pk_byt ha ..) (pk_byt ha ..) (pk_byt ha ..) (pk_byt ha ..)]
  have e := pk_ap ha hs hf
  obtain ⟨e1, e2, e3, e4⟩ := pk_seq (f := b.den ρ) hs
  rw [show (IE.ap 0 a b (.lit 1)).den ρ = _ from e 1, show (IE.ap 0 a b (.lit 2)).den ρ = _ from e 2, show (IE.ap 0 a b (.lit 3)).den ρ = _ from e 3, show (IE.ap 0 a b (.lit 4)).den ρ = _ from e 4, e1, e2, e3, e4]
  omega
theorem freqE_den {ρ : Env} (ha : PkA ρ) {a b : IE} (hs : 0 ≤ a.den ρ ∧ a.den ρ ≤ 4294967295) (hf : -9223372036854775808 ≤ b.den ρ ∧ b.den ρ ≤ 9223372036854775807) : (freqE a b).den ρ = b.den ρ := by
  show IntKind.i64.wrap ((catE .u64 _).den ρ) = _
  rw [cat8 (pk_byt ha ..) (pk_byt ha ..) (pk_byt ha ..) (pk_byt ha ..) (pk_byt ha ..) (pk_byt ha ..) (pk_byt ha ..) (pk_byt ha ..)]
  have e := pk_ap ha hs hf
  obtain ⟨e5, e6, e7, e8, e9, e10, e11, e12⟩ := pk_freq (a.den ρ) (b.den ρ)
  rw [show (IE.ap 0 a b (.lit 5)).den ρ = _ from e 5, show (IE.ap 0 a b (.lit 6)).den ρ = _ from e 6, show (IE.ap 0 a b (.lit 7)).den ρ = _ from e 7, show (IE.ap 0 a b (.lit 8)).den ρ = _ from e 8, show (IE.ap 0 a b (.lit 9)).den ρ = _ from e 9, show (IE.ap 0 a b (.lit 10)).den ρ = _ from e 10, show (IE.ap 0 a b (.lit 11)).den ρ = _ from e 11, show (IE.ap 0 a b (.lit 12)).den ρ = _ from e 12, e5, e6, e7, e8, e9, e10, e11, e12]
  have hF : 0 ≤ b.den ρ % 18446744073709551616 ∧ b.den ρ % 18446744073709551616 < 18446744073709551616 := by omega
  have back : ∀ F : Int, 0 ≤ F → ((((((F / 72057594037927936 * 256 + F / 281474976710656 % 256) * 256 + F / 1099511627776 % 256) * 256 + F / 4294967296 % 256) * 256 + F / 16777216 % 256) * 256 + F / 65536 % 256) * 256 + F / 256 % 256) * 256 + F % 256 = F := by
    intro F h0
    have h1 : F / 72057594037927936 * 256 + F / 281474976710656 % 256 = F / 281474976710656 := by omega
    have h2 : F / 281474976710656 * 256 + F / 1099511627776 % 256 = F / 1099511627776 := by omega
    have h3 : F / 1099511627776 * 256 + F / 4294967296 % 256 = F / 4294967296 := by omega
    have h4 : F / 4294967296 * 256 + F / 16777216 % 256 = F / 16777216 := by omega
    have h5 : F / 16777216 * 256 + F / 65536 % 256 = F / 65536 := by omega
    have h6 : F / 65536 * 256 + F / 256 % 256 = F / 256 := by omega
    have h7 : F / 256 * 256 + F % 256 = F := by omega
    rw [h1, h2, h3, h4, h5, h6, h7]
  rw [back _ hF.1, IntKind.wrap_i64]
  omega
/-- a law of chapter 9 by its tree -/
theorem law09 {ρ : Env} {rg ar : List (Int × Int)} (hin : AllIn ρ.i rg 0) (ha : PkA ρ) (har : ∀ (f : Nat) v, ar[f]? = some v → ∀ a b c, v.1 ≤ ρ.a f a b c ∧ ρ.a f a b c ≤ v.2) {cr : List (FuncId × List SV × SV)} (hcr : ∀ c ∈ cr, ∀ φ w, ExtIn ρ w → Calls Try.prog c.1 (SV.denL ρ φ c.2.1).toArray w fun e w' => e = .returned (c.2.2.den ρ φ) ∧ Below w.heap.size w w') {lp : FuncId → List Nat → Nat → Option LoopSum}
    (hlp : ∀ f p u L, lp f p u = some L → ∀ c, codeAt Try.prog f p = .loop c → sameIds L.bl L.bl' = true → LoopGoes Try.prog ρ [] L c) {xs : List XD} (hxs : ∀ (j : Nat) d, xs[j]? = some d → XOk ρ d (ρ.x j)) {nm : List (IE × IE)} (hnm : ∀ p ∈ nm, p.1.den ρ = p.2.den ρ) {ss : List SD} (hss : ∀ (j : Nat) d, ss[j]? = some d → SOk ρ d (ρ.s j)) {nb : List (BE × Nat)} (hnb : ∀ p ∈ nb, p.1.den ρ = ρ.b p.2)
    (T : Tree) {n : Nat} {f : FuncId} {args : List SV} (hT : T.Ok Try.prog { pc := [], cr := cr, rg := rg, ar := ar, ct := conCt rg ar [packCon], lp := lp, xs := xs, nm := nm, ss := ss, nb := nb } n f args) {v : Value} (hl : T.live ρ = true) (hv : T.val ρ = v) (w : World) (hx : ExtIn ρ w) :
    Calls Try.prog f (SV.denL ρ id args).toArray w fun e w' => e = .returned v ∧ Below w.heap.size w w' := by
  have h := tree_soundX (P := Try.prog) mixed09 (ρ := ρ) T (X := { pc := [], cr := cr, rg := rg, ar := ar, ct := conCt rg ar [packCon], lp := lp, xs := xs, nm := nm, ss := ss, nb := nb }) (knows_env rfl hin har hxs hnm hss hnb)
    ⟨hcr, fun pc hpc f vs v h _ φ w _ => conCt_ok hin.get0 har (fun c hc => by rw [List.mem_singleton.1 hc]; exact packCon_ok ha) hpc h φ w, hlp⟩ hT hl w hx
  rw [hv] at h
  exact h
/-- a path of the tree is taken, and what it comes to is true -/
def good9 (ρ : Env) : Tree → Bool
  | .dead => false
  | .leaf (.bool b) => b.den ρ
  | .leaf _ => false
  | .node c t e => cond (c.den ρ) (good9 ρ t) (good9 ρ e)
theorem good9_ok {ρ : Env} : ∀ {T : Tree}, good9 ρ T = true → T.live ρ = true ∧ T.val ρ = .bool true
  | .dead, h => by cases h
  | .leaf v, h => by
    cases v <;> simp only [good9, Bool.false_eq_true] at h
    exact ⟨rfl, by simp only [Tree.val, SV.den, h]⟩
  | .node c t e, h => by
    simp only [good9] at h
    simp only [Tree.live, Tree.val]
    cases hc : c.den ρ with
    | true => rw [hc] at h; exact good9_ok h
    | false => rw [hc] at h; exact good9_ok h
end Go.Proofs.Ytlbjcbcaaiggdaa
