/- A region that draws, part of it through already: of its head's operations those that are left read, or call quietly; what is left behind them is in one order. -/
import Derived.Test.YtmgfnejiienghaaQt
namespace Go.Proofs.Ytmgfnejiienghaa
open Go Go.RowKit Go.Sort

section
variable {P : Program} {ops : Array Oper} {md : Region.Mode} {C : World → Prop}

/-- each of these is waited for by a later one of these, or by the first one behind the head -/
def sinkIs (md : Region.Mode) (ops : Array Oper) (n : Nat) (is : List Nat) : Bool :=
  is.all fun i => decide (i < n) && (n :: is).any fun j => decide (i < j) && Region.waitsFor md ops j i
/-- these in this order, then the rest in its one order -/
def lexIs (md : Region.Mode) (ops : Array Oper) (g n : Nat) : List Nat → Array Bool → Bool
  | [], listed => Region.seqB md ops g n listed
  | k :: is, listed => (Region.ready md ops listed).contains k && Region.free md ops listed k && lexIs md ops g n is (listed.setIfInBounds k true)
/-- what is left of the head is among these -/
def leftIn (n : Nat) (is : List Nat) (listed : Array Bool) : Prop := ∀ i, i < n → listed.getD i true = false → i ∈ is
theorem leftIn.set {n : Nat} {is : List Nat} {listed : Array Bool} (h : leftIn n is listed) (j : Nat) : leftIn n is (listed.setIfInBounds j true) := fun i hi hl => by
  by_cases hij : j = i
  · subst hij
    rcases Nat.lt_or_ge j listed.size with hs | hs
    · simp [hs] at hl
    · simp [Array.getD] at hl
  · rw [getD_set_ne true hij] at hl
    exact h i hi hl
theorem late_waits {n : Nat} {is : List Nat} {listed : Array Bool} (hs : sinkIs md ops n is = true) (hc : Region.chainB md ops n = true) (hn : n < ops.size) (inv : HeadInv md ops n listed) (hin : leftIn n is listed) :
    ∀ (d i : Nat), n - i = d → i < n → listed.getD i true = false → ∀ t, n ≤ t → t ∉ Region.ready md ops listed := by
  intro d
  induction d using Nat.strongRecOn with
  | _ d ih =>
    intro i hd hi hun t ht hr
    obtain ⟨_, ot, hot, hall⟩ := mem_ready.1 hr
    have htlt : t < ops.size := (Array.getElem?_eq_some_iff.1 hot).1
    by_cases htn : t = n
    · subst htn
      have h1 := List.all_eq_true.1 hs i (hin i hi hun)
      simp only [Bool.and_eq_true, decide_eq_true_eq] at h1
      obtain ⟨j, hj, hj2⟩ := List.any_eq_true.1 h1.2
      simp only [Bool.and_eq_true, decide_eq_true_eq] at hj2
      obtain ⟨oj, hoj, e, he, hb, hon⟩ := Region.waitsFor_spec hj2.2
      by_cases hjt : j = t
      · subst hjt
        have : oj = ot := Option.some.inj (hoj.symm.trans hot)
        subst this
        have h2 := hall e he hb
        rw [hon, getD_both hun] at h2
        cases h2
      · have hjm : j ∈ is := by
          rcases List.mem_cons.1 hj with h | h
          · exact absurd h hjt
          · exact h
        have hjn : j < t := by
          have := List.all_eq_true.1 hs j hjm
          simp only [Bool.and_eq_true, decide_eq_true_eq] at this
          exact this.1
        cases hl : listed.getD j false with
        | true =>
          have h2 := inv.closed j oj hoj hl e he hb
          rw [hon, getD_both hun] at h2
          cases h2
        | false =>
          have hjs : j < listed.size := by rw [inv.size]; omega
          exact ih (t - j) (by omega) j rfl (by omega) (getD_in hjs hl) t (Nat.le_refl _) hr
    · have h1 := List.all_eq_true.1 hc t (List.mem_range.2 htlt)
      simp only [Bool.or_eq_true, decide_eq_true_eq] at h1
      rcases h1 with h1 | h1
      · omega
      · obtain ⟨o', ho', e, he, hb, hon⟩ := Region.waitsFor_spec h1
        have : o' = ot := Option.some.inj (ho'.symm.trans hot)
        subst this
        have h2 := hall e he hb
        rw [hon, getD_both (inv.tail (t - 1) (by omega) (by omega))] at h2
        cases h2

theorem late_first {n i : Nat} {is : List Nat} {oi : Oper} {v : Value} {L : Array Bool → Act → Prop} (hi : ops[i]? = some oi) (hsel : ∀ (j : Nat) (o : Oper) cs b, ops[j]? = some o → o.op ≠ .select cs b)
    (hs : sinkIs md ops n is = true) (hc : Region.chainB md ops n = true) (hn : n < ops.size) (hin : i < n)
    (hdone : ∀ listed a, L listed a → ∀ j ∈ Region.ready md ops listed, n ≤ j) :
    ∀ (f : Nat) (listed : Array Bool) (a : Act), HeadInv md ops n listed → leftIn n is listed →
      (∀ j oj, ops[j]? = some oj → j ≠ i → listed.getD j true = false → (∀ e ∈ oj.after, Region.binds md e = true → e.on ≠ i) → oi.apart ops oj = true) →
      i ∈ Region.ready md ops listed → YieldsIn P ops C oi v a →
      HeadQ P md ops C n L f (listed.setIfInBounds i true) (a.put oi.dst v) → HeadQ P md ops C n L (f + 1) listed a := by
  intro f
  induction f with
  | zero =>
    intro listed a inv hli _ hr hy H
    have hun := (mem_ready.1 hr).1
    refine ⟨fun h => (by rw [h] at hr; cases hr), fun j hj => ?_⟩
    have hjn : j < n := Nat.lt_of_not_le fun h => late_waits hs hc hn inv hli _ i rfl hin hun j h hj
    refine ⟨hjn, ?_⟩
    by_cases hji : j = i
    · subst hji; exact hy.qOp hi H
    · have := hdone _ _ H j (ready_mono hj hji)
      omega
  | succ f ih =>
    intro listed a inv hli hfree hr hy H
    have hun := (mem_ready.1 hr).1
    refine ⟨fun h => (by rw [h] at hr; cases hr), fun j hj => ?_⟩
    have hjn : j < n := Nat.lt_of_not_le fun h => late_waits hs hc hn inv hli _ i rfl hin hun j h hj
    refine ⟨hjn, ?_⟩
    by_cases hji : j = i
    · subst hji; exact hy.qOp hi H
    · have h1 := (H.2 j (ready_mono hj hji)).2
      obtain ⟨hjun, oj, hoj, hall⟩ := mem_ready.1 hj
      have hnot : ∀ e ∈ oj.after, Region.binds md e = true → e.on ≠ i := fun e he hb heq => by
        have h1 := hall e he hb
        rw [heq, getD_both hun] at h1
        cases h1
      have h2 := qOp_put hoj (hfree j oj hoj hji hjun hnot) (fun cs b => hsel i oi cs b hi) (fun cs b => hsel j oj cs b hoj) hy h1
      have hfree' : ∀ k ok, ops[k]? = some ok → k ≠ i → (listed.setIfInBounds j true).getD k true = false →
          (∀ e ∈ ok.after, Region.binds md e = true → e.on ≠ i) → oi.apart ops ok = true := fun k ok hk hki hun' hno => by
        refine hfree k ok hk hki ?_ hno
        by_cases hjk : j = k
        · subst hjk; exact hjun
        · rw [getD_set_ne true hjk] at hun'; exact hun'
      refine qOp_mono (fun a' h3 => ih (listed.setIfInBounds j true) a' (inv.set hj hjn) (hli.set j) hfree' (ready_mono hr (Ne.symm hji)) h3.1 ?_) h2
      rw [Array.setIfInBounds_comm _ _ hji]
      exact h3.2

theorem late_lex {n g : Nat} {Lq : Act → Prop} (hsel : Region.noSelect ops = true) (is0 : List Nat) (hs : sinkIs md ops n is0 = true) (hc : Region.chainB md ops n = true) (hn : n < ops.size) :
    ∀ (is : List Nat) (listed : Array Bool) (a : Act), (∀ k ∈ is, k < n) → HeadInv md ops n listed → leftIn n is0 listed →
    lexIs md ops g n is listed = true → wpQuiet P ops C Lq (is.filterMap fun i => ops[i]?) a →
    HeadQ P md ops C n (fun listed' a' => Region.seqB md ops g n listed' = true ∧ Lq a') is.length listed a
  | [], listed, a, _, _, _, hB, h => ⟨hB, h⟩
  | k :: is, listed, a, hl, inv, hli, hB, h => by
    have hkn : k < n := hl k (by simp)
    obtain ⟨o, h0⟩ : ∃ o, ops[k]? = some o := ⟨_, Array.getElem?_eq_getElem (by omega)⟩
    simp only [lexIs, Bool.and_eq_true] at hB
    obtain ⟨⟨hr, hf⟩, hB'⟩ := hB
    have hr' : k ∈ Region.ready md ops listed := by simpa using hr
    rw [List.filterMap_cons_some h0] at h
    have hst : qOp P ops C k (wpQuiet P ops C Lq (is.filterMap fun i => ops[i]?)) a := by unfold qOp; simp only [h0]; exact h
    obtain ⟨v, hy, hK⟩ := yieldsIn_of_qOp h0 hst
    exact late_first h0 (Region.noSelect_spec hsel) hs hc hn hkn (fun listed' a' hL => seqB_ready hL.1) is.length listed a inv hli (Region.free_spec h0 hf) hr' hy
      (late_lex hsel is0 hs hc hn is _ _ (fun j hj => hl j (by simp [hj])) (inv.set hr' hkn) (hli.set k) hB' hK)

/-- what the region's form must show, as one Bool -/
def lateB (ops : Array Oper) (n : Nat) (is : List Nat) (listed : Array Bool) : Bool :=
  Region.noSelect ops && decide (n < ops.size) && sinkIs .any ops n is && Region.chainB .any ops n && is.all (fun k => decide (k < n)) && decide (listed.size = ops.size)
  && (List.range ops.size).all (fun j => !listed.getD j false || (match ops[j]? with | some oj => oj.after.all fun e => !Region.binds .any e || listed.getD e.on false | none => true))
  && (List.range ops.size).all (fun t => decide (t < n) || !listed.getD t true)
  && (List.range n).all (fun i => listed.getD i true || is.contains i)
  && lexIs .any ops (ops.size - n) n is listed

theorem wpAny_below_from {Q : Exit → Act → World → Prop} {a : Act} {w : World} (n : Nat) (is : List Nat) (listed : Array Bool) (f : Nat) (hf : f = is.length + (ops.size - n)) (hB : lateB ops n is listed = true) (hw : C w)
    (h : wpQuiet P ops C (fun a' => ∀ w', C w' → wpList P ops Q (ops.toList.drop n) a' w') (is.filterMap fun i => ops[i]?) a) : wpAny P .any ops Q f listed a w := by
  simp only [lateB, Bool.and_eq_true, decide_eq_true_eq] at hB
  obtain ⟨⟨⟨⟨⟨⟨⟨⟨⟨hsel, hn⟩, hs⟩, hc⟩, hlt⟩, hsz⟩, hcl⟩, htl⟩, hli⟩, hlex⟩ := hB
  have inv0 : HeadInv .any ops n listed := by
    refine ⟨hsz, fun j oj hj hl e he hb => ?_, fun t ht htt => ?_⟩
    · have h1 := List.all_eq_true.1 hcl j (List.mem_range.2 (Array.getElem?_eq_some_iff.1 hj).1)
      rw [hj, hl] at h1
      simp only [Bool.not_true, Bool.false_or] at h1
      have h2 := Array.all_eq_true'.1 h1 e he
      rw [hb] at h2
      simpa using h2
    · have h1 := List.all_eq_true.1 htl t (List.mem_range.2 htt)
      simp only [Bool.or_eq_true, decide_eq_true_eq, Bool.not_eq_true'] at h1
      rcases h1 with h1 | h1
      · omega
      · exact h1
  have hli0 : leftIn n is listed := fun i hi hl => by
    have h1 := List.all_eq_true.1 hli i (List.mem_range.2 hi)
    rw [hl] at h1
    simpa using h1
  have H := late_lex (md := .any) (g := ops.size - n) hsel is hs hc hn is listed a (fun k hk => by simpa using List.all_eq_true.1 hlt k hk) inv0 hli0 hlex h
  rw [hf]
  have hdl : (ops.toList.drop n).length = ops.size - n := by simp
  exact wpAny_of_headQ (Q' := Q) (g := ops.size - n) (fun listed a' w' hw' hL => by
    rw [← hdl]
    exact wpAny_of_seq (ops.toList.drop n) n listed a' w' (fun j => by simp) (by rw [hdl]; exact hL.1) (hL.2 w' hw')) _ _ _ w hw H
end
end Go.Proofs.Ytmgfnejiienghaa
