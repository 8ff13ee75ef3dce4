/- A checked evaluator: a region whose order is drawn comes to the same in whatever order. -/
import Derived.Test.YtmgfnejiienghaaM24
import Derived.StillTail
import Derived.OrdersIn
namespace Go.Proofs.Ytmgfnejiienghaa
open Go Go.RowKit
set_option linter.unusedVariables false
namespace Ev

abbrev FP := List Loc × List Loc
/-- a run through some operations, one behind the other, with what each touched -/
inductive Run (m : Nat → M St Unit) : St → List (Nat × FP) → St → Prop where
  | nil (s : St) : Run m s [] s
  | cons {i : Nat} {s s1 s2 : St} {r w : List Loc} {l : List (Nat × FP)} (h : m i s = .ok () s1 r w) (k : Run m s1 l s2) : Run m s ((i, (r, w)) :: l) s2
def Same (s t : St) : Prop := ∀ l, agrT s t l
theorem Same.refl (s : St) : Same s s := fun l => agrT_ok.refl s l
theorem Same.symm {s t : St} (h : Same s t) : Same t s := fun l => agrT_ok.symm _ _ _ (h l)
theorem Same.trans {s t u : St} (h : Same s t) (k : Same t u) : Same s u := fun l => agrT_ok.trans _ _ _ _ (h l) (k l)
/-- what is laid into maps under other keys changes places -/
def KeySwap (ops : Array Oper) (m : Nat → M St Unit) : Prop :=
  ∀ {i j : Nat} {s s1 s2 : St} {r1 w1 r2 w2 : List Loc}, m i s = .ok () s1 r1 w1 → m j s1 = .ok () s2 r2 w2 → keysApart ops i j (r1, w1) (r2, w2) = true →
    ∃ t1 t2, m j s = .ok () t1 r2 w2 ∧ m i t1 = .ok () t2 r1 w1 ∧ Same s2 t2
section
variable {m : Nat → M St Unit} (hloc : ∀ i, Local agrT (m i))
include hloc
/-- the same state, the same run -/
theorem one_same {i : Nat} {s s1 t : St} {r w : List Loc} (h : m i s = .ok () s1 r w) (hs : Same s t) : ∃ t1, m i t = .ok () t1 r w ∧ Same s1 t1 := by
  obtain ⟨t1, k, e⟩ := (hloc i).stable _ _ _ _ _ h t (fun l _ => hs l)
  refine ⟨t1, k, fun l => ?_⟩
  by_cases hl : l ∈ w
  · exact e l hl
  · exact agrT_ok.trans _ _ _ _ ((hloc i).frame _ _ _ _ _ h l hl) (agrT_ok.trans _ _ _ _ (hs l) (agrT_ok.symm _ _ _ ((hloc i).frame _ _ _ _ _ k l hl)))
theorem run_same {l : List (Nat × FP)} {s sn : St} (h : Run m s l sn) : ∀ {t : St}, Same s t → ∃ tn, Run m t l tn ∧ Same sn tn := by
  induction h with
  | nil s => exact fun {t} hs => ⟨t, .nil t, hs⟩
  | cons h k ih =>
    intro t hs
    obtain ⟨t1, k1, e1⟩ := one_same hloc h hs
    obtain ⟨tn, k2, e2⟩ := ih e1
    exact ⟨tn, .cons k1 k2, e2⟩
/-- two operations that touch nothing of each other's change places -/
theorem swap {i j : Nat} {s s1 s2 : St} {r1 w1 r2 w2 : List Loc} (h1 : m i s = .ok () s1 r1 w1) (h2 : m j s1 = .ok () s2 r2 w2) (hap : apartL (r1, w1) (r2, w2) = true) :
    ∃ t1 t2, m j s = .ok () t1 r2 w2 ∧ m i t1 = .ok () t2 r1 w1 ∧ Same s2 t2 := by
  simp only [apartL, Bool.and_eq_true, List.all_eq_true, Bool.not_eq_true'] at hap
  obtain ⟨ha, hb⟩ := hap
  have a1 : ∀ l ∈ w1, l ∉ r2 := fun l hl hr => by have := (ha l hl).1; rw [Loc.has_iff.2 hr] at this; cases this
  have a2 : ∀ l ∈ w1, l ∉ w2 := fun l hl hr => by have := (ha l hl).2; rw [Loc.has_iff.2 hr] at this; cases this
  have a3 : ∀ l ∈ w2, l ∉ r1 := fun l hl hr => by have := hb l hl; rw [Loc.has_iff.2 hr] at this; cases this
  obtain ⟨t1, k1, e1⟩ := (hloc j).stable _ _ _ _ _ h2 s (fun l hl => (hloc i).frame _ _ _ _ _ h1 l (fun hw => a1 l hw hl))
  obtain ⟨t2, k2, e2⟩ := (hloc i).stable _ _ _ _ _ h1 t1 (fun l hl => agrT_ok.symm _ _ _ ((hloc j).frame _ _ _ _ _ k1 l (fun hw => a3 l hw hl)))
  refine ⟨t1, t2, k1, k2, fun l => ?_⟩
  by_cases hl1 : l ∈ w1
  · exact agrT_ok.trans _ _ _ _ ((hloc j).frame _ _ _ _ _ h2 l (a2 l hl1)) (e2 l hl1)
  · by_cases hl2 : l ∈ w2
    · exact agrT_ok.trans _ _ _ _ (e1 l hl2) (agrT_ok.symm _ _ _ ((hloc i).frame _ _ _ _ _ k2 l hl1))
    · exact agrT_ok.trans _ _ _ _ ((hloc j).frame _ _ _ _ _ h2 l hl2) (agrT_ok.trans _ _ _ _ ((hloc i).frame _ _ _ _ _ h1 l hl1)
        (agrT_ok.trans _ _ _ _ (agrT_ok.symm _ _ _ ((hloc j).frame _ _ _ _ _ k1 l hl2)) (agrT_ok.symm _ _ _ ((hloc i).frame _ _ _ _ _ k2 l hl1))))
/-- one operation is moved ahead of those that it touches nothing of -/
theorem move {ops : Array Oper} (hkey : KeySwap ops m) {i : Nat} {x : FP} {post : List (Nat × FP)} {sn : St} : ∀ {pre : List (Nat × FP)} {s : St}, Run m s (pre ++ (i, x) :: post) sn → (∀ p ∈ pre, apartO ops p.1 i p.2 x = true) →
    ∃ tn, Run m s ((i, x) :: (pre ++ post)) tn ∧ Same sn tn
  | [], s, h, _ => ⟨sn, h, Same.refl _⟩
  | (p, y) :: pre, s, h, hap => by
    rw [List.cons_append] at h
    cases h with
    | cons h1 k1 =>
      obtain ⟨tn, k2, e2⟩ := move hkey k1 (fun q hq => hap q (by simp [hq]))
      cases k2 with
      | cons h3 k3 =>
        have hh := hap _ (List.mem_cons_self ..)
        simp only [apartO, Bool.or_eq_true] at hh
        obtain ⟨t1, t2, g1, g2, e3⟩ := hh.elim (swap hloc h1 h3) (hkey h1 h3)
        obtain ⟨tn', k4, e4⟩ := run_same hloc k3 e3
        exact ⟨tn', .cons g1 (.cons g2 k4), e2.trans e4⟩
end

theorem backOk_spec : ∀ {l : List Oper} {k : Nat}, backOk l k = true → ∀ (i : Nat) o, l[i]? = some o → ∀ e ∈ o.after, Region.binds .any e = true → e.on < k + i
  | [], k, _, i, o, h, _, _, _ => by simp at h
  | o :: l, k, hb, i, o', h, e, he, hbd => by
    simp only [backOk, Bool.and_eq_true, List.all_eq_true, Bool.or_eq_true, Bool.not_eq_true'] at hb
    cases i with
    | zero =>
      simp only [List.getElem?_cons_zero, Option.some.injEq] at h
      subst h
      rcases hb.1 e (by simpa using he) with h1 | h1
      · rw [h1] at hbd; cases hbd
      · simpa [Nat.blt_eq] using h1
    | succ i =>
      have := backOk_spec hb.2 i o' (by simpa using h) e he hbd
      omega
theorem fixOk_spec {ms : List Nat} : ∀ {l : List Oper} {k : Nat}, fixOk ms l k = true → ∀ (i : Nat) o, l[i]? = some o → ms.getD (k + i) 0 = maskOf ms o.after.toList
  | [], k, _, i, o, h => by simp at h
  | o :: l, k, hb, i, o', h => by
    simp only [fixOk, Bool.and_eq_true, Nat.beq_eq] at hb
    cases i with
    | zero =>
      simp only [List.getElem?_cons_zero, Option.some.injEq] at h
      subst h
      exact hb.1
    | succ i =>
      have := fixOk_spec hb.2 i o' (by simpa using h)
      rw [← this]; congr 1; omega
theorem maskOf_spec {ms : List Nat} {p : Nat} : ∀ {l : List Edge}, (maskOf ms l).testBit p = true → ∃ e ∈ l, Region.binds .any e = true ∧ (e.on = p ∨ (ms.getD e.on 0).testBit p = true)
  | [], h => by simp [maskOf] at h
  | e :: l, h => by
    simp only [maskOf] at h
    split at h
    · rename_i hb
      simp only [Nat.testBit_or, Bool.or_eq_true] at h
      rcases h with (h | h) | h
      · exact ⟨e, by simp, hb, .inl (by simpa [Nat.testBit_two_pow] using h)⟩
      · exact ⟨e, by simp, hb, .inr h⟩
      · obtain ⟨e', h1, h2⟩ := maskOf_spec h
        exact ⟨e', by simp [h1], h2⟩
    · obtain ⟨e', h1, h2⟩ := maskOf_spec h
      exact ⟨e', by simp [h1], h2⟩
theorem pairsOk_drop {ops : Array Oper} {ms : List Nat} {q : Nat × FP} {post : List (Nat × FP)} : ∀ {pre : List (Nat × FP)}, pairsOk ops ms (pre ++ q :: post) = true → pairsOk ops ms (pre ++ post) = true ∧ ∀ p ∈ pre, ((ms.getD q.1 0).testBit p.1 || apartO ops p.1 q.1 p.2 q.2) = true
  | [], h => by
    simp only [List.nil_append, pairsOk, Bool.and_eq_true] at h
    exact ⟨h.2, fun p hp => by cases hp⟩
  | (i, x) :: pre, h => by
    simp only [List.cons_append, pairsOk, Bool.and_eq_true] at h ⊢
    obtain ⟨h1, h2⟩ := pairsOk_drop h.2
    have hf : ∀ {l : List (Nat × FP)}, freeOf ops ms i x l = true ↔ ∀ y ∈ l, ((ms.getD y.1 0).testBit i || apartO ops i y.1 x y.2) = true := by
      intro l
      induction l with
      | nil => simp [freeOf]
      | cons y l ih =>
        obtain ⟨j, y⟩ := y
        simp only [freeOf, Bool.and_eq_true, ih, List.mem_cons, forall_eq_or_imp]
    have hfr := hf.1 h.1
    refine ⟨⟨hf.2 fun y hy => hfr y ?_, h1⟩, fun p hp => ?_⟩
    · simp only [List.mem_append, List.mem_cons] at hy ⊢
      rcases hy with hy | hy
      · exact .inl hy
      · exact .inr (.inr hy)
    · simp only [List.mem_cons] at hp
      rcases hp with rfl | hp
      · exact hfr q (by simp)
      · exact h2 p hp

section
variable {F : Fence} {k : Nat} {P : Program} {ops : Array Oper} {Q : Exit → Act → World → Prop}
/-- what is known while a region runs -/
structure Inv (ops : Array Oper) (listed : Array Bool) (l : List (Nat × FP)) : Prop where
  size : listed.size = ops.size
  left : ∀ j, j < ops.size → (listed.getD j true = false ↔ j ∈ l.map (·.1))
  closed : ∀ (j : Nat) o, ops[j]? = some o → listed.getD j false = true → ∀ e ∈ o.after, Region.binds .any e = true → listed.getD e.on false = true
  sorted : (l.map (·.1)).Pairwise (· < ·)
  lt : ∀ j ∈ l.map (·.1), j < ops.size
theorem any_of_run {m : Nat → M St Unit} (hloc : ∀ i, Local agrT (m i)) (hkey : KeySwap ops m) {Rl : St → Act → World → Prop} (hcong : ∀ s t a w, Same s t → Rl s a w → Rl t a w)
    (hstep : ∀ i s s' r wl a w K, m i s = .ok () s' r wl → Rl s a w → (∀ a' w', Rl s' a' w' → K a' w') → wpOpIn F k P ops Q i K a w)
    {ms : List Nat} (hback : backOk ops.toList 0 = true) (hfix : fixOk ms ops.toList 0 = true) :
    ∀ (f : Nat) (l : List (Nat × FP)) (listed : Array Bool) (s sn : St) (a : Act) (w : World), l.length = f → Run m s l sn → pairsOk ops ms l = true → Inv ops listed l → Rl s a w →
      (∀ a' w', Rl sn a' w' → Q .normal a' w') → wpAnyIn F k P .any ops Q f listed a w := by
  have hbk : ∀ (i : Nat) o, ops[i]? = some o → ∀ e ∈ o.after, Region.binds .any e = true → e.on < i := fun i o ho e he hb => by
    have := backOk_spec hback i o (by simpa using ho) e he hb; omega
  have hfx : ∀ (i : Nat) o, ops[i]? = some o → ms.getD i 0 = maskOf ms o.after.toList := fun i o ho => by
    have := fixOk_spec hfix i o (by simpa using ho); simpa using this
  have lst : ∀ {listed : Array Bool} {l : List (Nat × FP)}, Inv ops listed l → ∀ j, j < ops.size → j ∉ l.map (·.1) → listed.getD j false = true := by
    intro listed l inv j hj hn
    have h1 := mt (inv.left j hj).1 hn
    have hlt : j < listed.size := by rw [inv.size]; exact hj
    simp [hlt] at h1 ⊢
    exact h1
  intro f
  induction f with
  | zero =>
    intro l listed s sn a w hl hrun _ inv hr hQ
    obtain rfl : l = [] := List.length_eq_zero_iff.1 hl
    cases hrun
    refine ⟨?_, hQ _ _ hr⟩
    rw [List.eq_nil_iff_forall_not_mem]
    intro j hj
    obtain ⟨h0, o, ho, _⟩ := mem_ready.1 hj
    have := (inv.left j (Array.getElem?_eq_some_iff.1 ho).1).1 h0
    simp at this
  | succ f ih =>
    intro l listed s sn a w hl hrun hpairs inv hr hQ
    refine ⟨fun h0 => ?_, fun i hi => ?_⟩
    · exfalso
      cases l with
      | nil => simp at hl
      | cons p l =>
        obtain ⟨i0, x⟩ := p
        have hlt : i0 < ops.size := inv.lt i0 (by simp)
        have : i0 ∈ Region.ready .any ops listed := by
          refine mem_ready.2 ⟨(inv.left i0 hlt).2 (by simp), ops[i0], by simp, fun e he hb => ?_⟩
          have hon := hbk i0 ops[i0] (by simp) e he hb
          refine lst inv e.on (by omega) (fun hmem => ?_)
          simp only [List.map_cons, List.mem_cons] at hmem
          rcases hmem with h1 | h1
          · omega
          · have := inv.sorted
            simp only [List.map_cons, List.pairwise_cons] at this
            have := this.1 _ h1
            omega
        rw [h0] at this
        cases this
    · obtain ⟨hun, oi, hoi, hall⟩ := mem_ready.1 hi
      have hin : i < ops.size := (Array.getElem?_eq_some_iff.1 hoi).1
      have hmem := (inv.left i hin).1 hun
      obtain ⟨q, hq, hqi⟩ := List.mem_map.1 hmem
      obtain ⟨pre, post, rfl⟩ := List.append_of_mem hq
      obtain ⟨i', x⟩ := q
      simp only at hqi
      subst hqi
      obtain ⟨hp2, hp1⟩ := pairsOk_drop hpairs
      -- what stands ahead of i in the bits is listed
      have hbits : ∀ (j : Nat), ∀ o, ops[j]? = some o → (∀ e ∈ o.after, Region.binds .any e = true → listed.getD e.on false = true) → ∀ p, (ms.getD j 0).testBit p = true → listed.getD p false = true := by
        intro j
        induction j using Nat.strongRecOn with
        | _ j ihj =>
          intro o ho hd p hb
          rw [hfx j o ho] at hb
          obtain ⟨e, he, hbd, hor⟩ := maskOf_spec hb
          have he' : e ∈ o.after := by simpa using he
          have hl1 := hd e he' hbd
          rcases hor with rfl | hor
          · exact hl1
          · have hlt := hbk j o ho e he' hbd
            have hjn : j < ops.size := (Array.getElem?_eq_some_iff.1 ho).1
            have ho2 : ops[e.on]? = some ops[e.on] := by simp [show e.on < ops.size by omega]
            exact ihj e.on hlt _ ho2 (inv.closed e.on _ ho2 hl1) p hor
      have hap : ∀ p ∈ pre, apartO ops p.1 i' p.2 x = true := by
        intro p hp
        have h1 := hp1 p hp
        simp only [Bool.or_eq_true] at h1
        rcases h1 with h1 | h1
        · exfalso
          have h2 := hbits i' oi hoi hall p.1 h1
          have hpm : p.1 ∈ (pre ++ (i', x) :: post).map (·.1) := List.mem_map.2 ⟨p, by simp [hp], rfl⟩
          have h3 := (inv.left p.1 (inv.lt _ hpm)).2 hpm
          rw [getD_both h3] at h2
          cases h2
        · exact h1
      obtain ⟨tn, hrun', hsame⟩ := move hloc hkey hrun hap
      cases hrun' with
      | cons h1 k1 =>
        refine hstep i' _ _ _ _ _ _ _ h1 hr (fun a' w' hr' => ?_)
        have hnodup : i' ∉ (pre ++ post).map (·.1) := by
          have hs := inv.sorted
          rw [List.map_append, List.map_cons, List.pairwise_append, List.pairwise_cons] at hs
          intro hm
          rw [List.map_append, List.mem_append] at hm
          rcases hm with hm | hm
          · have := hs.2.2 _ hm i' (by simp); omega
          · have := hs.2.1.1 _ hm; omega
        refine ih (pre ++ post) _ _ tn a' w' (by simp at hl ⊢; omega) k1 hp2 ⟨by simp [inv.size], fun j hj => ?_, fun j o ho hj e he hb => ?_, ?_, fun j hj => ?_⟩ hr' (fun a'' w'' hr'' => hQ _ _ (hcong _ _ _ _ hsame.symm hr''))
        · by_cases hji : i' = j
          · subst hji
            have hlt : i' < listed.size := by rw [inv.size]; exact hj
            simp only [show (listed.setIfInBounds i' true).getD i' true = true by simp [hlt]]
            simp only [Bool.true_eq_false, false_iff]
            exact hnodup
          · rw [getD_set_ne true hji, inv.left j hj]
            simp only [List.map_append, List.map_cons, List.mem_append, List.mem_cons]
            constructor
            · rintro (h | h | h)
              · exact .inl h
              · exact absurd h.symm hji
              · exact .inr h
            · rintro (h | h)
              · exact .inl h
              · exact .inr (.inr h)
        · by_cases hji : i' = j
          · subst hji
            obtain rfl : oi = o := Option.some.inj (hoi.symm.trans ho)
            exact getD_set_true (hall e he hb)
          · rw [getD_set_ne false hji] at hj
            exact getD_set_true (inv.closed j o ho hj e he hb)
        · have hs := inv.sorted
          rw [List.map_append, List.map_cons] at hs
          rw [List.map_append]
          exact hs.sublist (List.Sublist.append_left (List.sublist_cons_self _ _) _)
        · refine inv.lt j ?_
          simp only [List.map_append, List.map_cons, List.mem_append, List.mem_cons] at hj ⊢
          rcases hj with h | h
          · exact .inl h
          · exact .inr (.inr h)
end
end Ev
end Go.Proofs.Ytmgfnejiienghaa
