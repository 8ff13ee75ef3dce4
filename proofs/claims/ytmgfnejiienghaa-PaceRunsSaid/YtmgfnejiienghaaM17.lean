/- A checked evaluator: all that it does is local. -/
import Derived.Test.YtmgfnejiienghaaM16
namespace Go.Proofs.Ytmgfnejiienghaa
open Go Go.RowKit
set_option linter.unusedVariables false
namespace Ev

section
variable {S : Type} {agr : S → S → Loc → Prop} (A : Agrees agr)
theorem bad_local {α : Type} (s : String) : Local agr (bad s : M S α) := Local.fail _
include A
theorem atom_local (X : Ctx) (b : BE) : Local agr (atom X b : M S Bool) := by
  unfold atom
  split
  · exact Local.pure A _
  · exact Local.fail _
theorem atomC_local (X : Ctx) (op : BinOp) (a b : IE) : Local agr (atomC X op a b : M S Bool) := by
  unfold atomC
  split
  · exact Local.pure A _
  · exact atom_local A X _
theorem decCmp_local (X : Ctx) (op : BinOp) (a b : IE) : Local agr (decCmp X op a b : M S Bool) := by
  unfold decCmp
  split
  all_goals first
    | exact atomC_local A X _ _ _
    | exact Local.bind A (atomC_local A X _ _ _) (fun t => Local.pure A _)
theorem dec_local (X : Ctx) : ∀ b : BE, Local agr (dec X b : M S Bool)
  | .lit b => by unfold dec; exact Local.pure A _
  | .var i => by unfold dec; exact atom_local A X _
  | .not a => by unfold dec; exact Local.bind A (dec_local X a) (fun t => Local.pure A _)
  | .and a b => by
    unfold dec
    refine Local.bind A (dec_local X a) (fun t => ?_)
    split
    · exact dec_local X b
    · exact Local.pure A _
  | .eqb a b => by unfold dec; exact Local.bind A (dec_local X a) (fun s => Local.bind A (dec_local X b) fun t => Local.pure A _)
  | .cmp op a b => by unfold dec; exact decCmp_local A X op a b
theorem decI_local (X : Ctx) (op : BinOp) (a b : IE) : Local agr (decI X op a b : M S Bool) := dec_local A X _
theorem which_local (X : Ctx) (e : IE) : ∀ n j, Local agr (which X e n j : M S Nat)
  | 0, j => by unfold which; exact bad_local _
  | n + 1, j => by
    unfold which
    refine Local.bind A (decI_local A X _ _ _) (fun t => ?_)
    split
    · exact Local.pure A _
    · exact which_local X e n (j + 1)
theorem place_local (X : Ctx) (e : IE) (n : Nat) : Local agr (place X e n : M S Nat) := by
  unfold place
  split
  · split
    · exact Local.pure A _
    · exact bad_local _
  · exact bad_local _
  · exact which_local A X _ _ _
end
theorem loadS_local (P : Program) (t : TypeId) (b off : Nat) : Local agrS (loadS P t b off) := by
  unfold loadS
  refine Local.bind agrS_ok (rdB_local b) (fun B => ?_)
  repeat' (first | exact Local.pure agrS_ok _ | exact bad_local _ | split)
theorem wrR_local (b : Nat) (B : Blk) (cs : List SV) : Local agrS (wrR b B cs) := by
  unfold wrR
  split
  · exact bad_local _
  · exact wrB_local _ _
theorem newR_local (id : Nat) (B : Blk) : Local agrS (newR id B) := by
  unfold newR
  refine Local.bind agrS_ok (chk_local _) (fun _ => ?_)
  split
  · exact bad_local _
  · exact newB_local _ _
theorem storeS_local (P : Program) (t : TypeId) (b off : Nat) (v : SV) : Local agrS (storeS P t b off v) := by
  unfold storeS
  split
  · split
    · exact Local.pure agrS_ok _
    refine Local.bind agrS_ok (rdB_local b) (fun B => ?_)
    split
    · exact Local.bind agrS_ok (wrR_local _ _ _) (fun _ => Local.pure agrS_ok _)
    · exact bad_local _
  · exact bad_local _
theorem binI_local (X : Ctx) (op : BinOp) (k l : IntKind) (a b : IE) : Local agrS (binI X op k l a b) := by
  unfold binI
  repeat' (first | exact Local.pure agrS_ok _ | exact bad_local _ | exact decI_local agrS_ok _ _ _ _ | refine Local.bind agrS_ok (decI_local agrS_ok _ _ _ _) (fun t => ?_) | split)
theorem eqN_local (P : Program) (op : BinOp) (t : TypeId) (as bs : List SV) : Local agrS (eqN P op t as bs) := by
  unfold eqN
  repeat' (first | exact Local.pure agrS_ok _ | exact bad_local _ | split)
theorem binS_local (P : Program) (X : Ctx) (op : BinOp) (t : TypeId) (x y : SV) : Local agrS (binS P X op t x y) := by
  unfold binS
  repeat' (first | exact eqN_local _ _ _ _ _ | exact Local.pure agrS_ok _ | exact bad_local _ | exact binI_local _ _ _ _ _ _ | split)
theorem rowS_local (b off m : Nat) : Local agrS (rowS b off m) := by
  unfold rowS
  refine Local.bind agrS_ok (rdB_local b) (fun B => ?_)
  repeat' (first | exact Local.pure agrS_ok _ | exact bad_local _ | split)
theorem cellsElse_local (X : Ctx) (n : Nat) (x : SV) : Local agrS (cellsElse X n x) := by
  unfold cellsElse
  repeat' (first | exact Local.pure agrS_ok _ | exact bad_local _ | split)
theorem cellsOfS_local (X : Ctx) (n : Nat) (x : SV) : Local agrS (cellsOfS X n x) := by
  unfold cellsOfS
  repeat' (first | exact cellsElse_local _ _ _ | exact Local.pure agrS_ok _ | exact bad_local _ | refine Local.bind agrS_ok (rowS_local _ _ _) (fun _ => ?_) | split)
theorem growS_local (id : Nat) (elem : TypeId) (n len k : Nat) (old new : List SV) : Local agrS (growS id elem n len k old new) := by
  unfold growS
  split
  · exact Local.bind agrS_ok (newR_local _ _) (fun _ => Local.pure agrS_ok _)
  · exact bad_local _
theorem appendTo_local (P : Program) (id : Nat) (elem : TypeId) (n k : Nat) (new : List SV) (a : AB) : Local agrS (appendTo P id elem n k new a) := by
  unfold appendTo
  repeat' (first
    | exact Local.pure agrS_ok _
    | exact bad_local _
    | exact growS_local _ _ _ _ _ _ _
    | refine Local.bind agrS_ok (rdB_local _) (fun _ => ?_)
    | refine Local.bind agrS_ok (rowS_local _ _ _) (fun _ => ?_)
    | refine Local.bind agrS_ok (chk_local _) (fun _ => ?_)
    | refine Local.bind agrS_ok (wrB_local _ _) (fun _ => ?_)
    | refine Local.bind agrS_ok (wrR_local _ _ _) (fun _ => ?_)
    | split)
theorem appendS_local (P : Program) (X : Ctx) (id : Nat) (ts : Array TypeId) (s x : SV) : Local agrS (appendS P X id ts s x) := by
  unfold appendS
  repeat' (first
    | exact bad_local _
    | exact appendTo_local _ _ _ _ _ _ _
    | refine Local.bind agrS_ok (cellsOfS_local _ _ _) (fun _ => ?_)
    | split)
theorem copyS_local (P : Program) (X : Ctx) (ts : Array TypeId) (s x : SV) : Local agrS (copyS P X ts s x) := by
  unfold copyS
  dsimp only
  repeat' (first
    | exact Local.pure agrS_ok _
    | exact bad_local _
    | refine Local.bind agrS_ok (cellsOfS_local _ _ _) (fun _ => ?_)
    | refine Local.bind agrS_ok (rdB_local _) (fun _ => ?_)
    | refine Local.bind agrS_ok (chk_local _) (fun _ => ?_)
    | refine Local.bind agrS_ok (wrR_local _ _ _) (fun _ => ?_)
    | split)
theorem copyStrAt_local (X : Ctx) (d : SD) (b off len : Nat) : Local agrS (copyStrAt X d b off len) := by
  unfold copyStrAt
  repeat' (first
    | exact Local.pure agrS_ok _
    | exact bad_local _
    | refine Local.bind agrS_ok (rdB_local _) (fun _ => ?_)
    | refine Local.bind agrS_ok (wrR_local _ _ _) (fun _ => ?_)
    | split)
theorem copyStr_local (P : Program) (X : Ctx) (ts : Array TypeId) (s : SV) (j : Nat) : Local agrS (copyStr P X ts s j) := by
  unfold copyStr
  repeat' (first | exact copyStrAt_local _ _ _ _ _ | exact bad_local _ | split)
theorem copyAny_local (P : Program) (X : Ctx) (ts : Array TypeId) (s x : SV) : Local agrS (copyAny P X ts s x) := by
  cases x <;> first | exact copyStr_local _ _ _ _ _ | exact copyS_local _ _ _ _ _
theorem builtinS_local (P : Program) (X : Ctx) (b : Builtin) (id : Nat) (ts : Array TypeId) (vs : List SV) : Local agrS (builtinS P X b id ts vs) := by
  unfold builtinS
  repeat' (first | exact Local.pure agrS_ok _ | exact bad_local _ | exact appendS_local _ _ _ _ _ _ | exact copyAny_local _ _ _ _ _ | split)
theorem strOf_local (x : SV) : Local agrS (strOf x) := by
  have h : ∀ x, Local agrS (strRow x) := fun x => by
    unfold strRow
    split
    · refine Local.bind agrS_ok (rowS_local _ _ _) (fun _ => ?_)
      split
      · exact Local.pure agrS_ok _
      · exact bad_local _
    · exact bad_local _
  unfold strOf
  split
  · exact Local.pure agrS_ok _
  · exact h _
theorem convS_local (P : Program) (X : Ctx) (id : Nat) (src dst : TypeId) (x : SV) : Local agrS (convS P X id src dst x) := by
  unfold convS
  repeat' (first
    | exact Local.pure agrS_ok _
    | exact bad_local _
    | refine Local.bind agrS_ok (newR_local _ _) (fun _ => ?_)
    | exact strOf_local _
    | split)
theorem makeSliceS_local (P : Program) (id : Nat) (t : TypeId) (l c : Nat) : Local agrS (makeSliceS P id t l c) := by
  unfold makeSliceS
  repeat' (first
    | exact Local.pure agrS_ok _
    | exact bad_local _
    | refine Local.bind agrS_ok (newR_local _ _) (fun _ => ?_)
    | split)
theorem findS_local (X : Ctx) (d : TypeDesc) (k : SV) : ∀ l : List SV, Local agrS (findS X d k l : M Store (Option (Nat × SV)))
  | [] => by unfold findS; exact Local.pure agrS_ok _
  | [_] => by unfold findS; exact Local.pure agrS_ok _
  | e :: v :: l => by
    unfold findS
    split
    · refine Local.bind agrS_ok (dec_local agrS_ok _ _) (fun t => ?_)
      split
      · exact Local.pure agrS_ok _
      · exact Local.bind agrS_ok (findS_local X d k l) (fun _ => Local.pure agrS_ok _)
    · exact bad_local _
theorem lookupS_local (P : Program) (X : Ctx) (t : TypeId) (b : Nat) (k : SV) (ok : Bool) : Local agrS (lookupS P X t b k ok) := by
  unfold lookupS
  repeat' (first
    | exact Local.pure agrS_ok _
    | exact bad_local _
    | refine Local.bind agrS_ok (rdB_local _) (fun _ => ?_)
    | refine Local.bind agrS_ok (findS_local _ _ _ _) (fun _ => ?_)
    | split)
theorem insFresh_local (b : Nat) (B : Blk) (n : Int) (k v : SV) (l : List SV) : Local agrS (insFresh b B n k v l) := by
  unfold insFresh
  refine Local.bind agrS_ok (noteK_local _) (fun _ => ?_)
  refine Local.bind agrS_ok (chk_local _) (fun _ => ?_)
  exact Local.bind agrS_ok (wrB_local _ _) (fun _ => Local.pure agrS_ok _)
theorem insAny_local (X : Ctx) (d : TypeDesc) (b : Nat) (B : Blk) (k v : SV) (l : List SV) : Local agrS (insAny X d b B k v l) := by
  unfold insAny
  refine Local.bind agrS_ok (findS_local _ _ _ _) (fun r => ?_)
  refine Local.bind agrS_ok (chk_local _) (fun _ => ?_)
  cases r <;> exact Local.bind agrS_ok (wrB_local _ _) (fun _ => Local.pure agrS_ok _)
theorem insertS_local (P : Program) (X : Ctx) (t : TypeId) (b : Nat) (k v : SV) : Local agrS (insertS P X t b k v) := by
  unfold insertS
  repeat' (first
    | exact Local.pure agrS_ok _
    | exact bad_local _
    | exact insFresh_local _ _ _ _ _ _
    | exact insAny_local _ _ _ _ _ _ _
    | refine Local.bind agrS_ok (rdB_local _) (fun _ => ?_)
    | split)
theorem setL_local (b m pk i : Nat) : Local agrS (setL b m pk i) := by
  unfold setL
  refine Local.bind agrS_ok (rdB_local _) (fun _ => ?_)
  repeat' (first | exact wrB_local _ _ | exact bad_local _ | split)
theorem beginL_local (b : Nat) : Local agrS (beginL b) := by
  unfold beginL
  refine Local.bind agrS_ok (rdB_local _) (fun _ => ?_)
  repeat' (first | exact wrB_local _ _ | exact bad_local _ | split)
theorem leaveL_local (b : Nat) : Local agrS (leaveL b) := by
  unfold leaveL
  refine Local.bind agrS_ok (rdB_local _) (fun _ => ?_)
  repeat' (first
    | exact bad_local _
    | exact Local.bind agrS_ok (wrB_local _ _) (fun _ => Local.pure agrS_ok _)
    | split)
theorem roundL_local (P : Program) (b : Nat) (vs : List SV) : Local agrS (roundL P b vs) := by
  unfold roundL
  refine Local.bind agrS_ok (rdB_local _) (fun _ => ?_)
  repeat' (first | exact Local.pure agrS_ok _ | exact bad_local _ | split)
theorem endL_local (b : Nat) (e : Ex) : Local agrS (endL b e) := by
  unfold endL
  split
  all_goals first
    | exact bad_local _
    | exact Local.bind agrS_ok (setL_local _ _ _ _) (fun _ => Local.pure agrS_ok _)
theorem dfrOf_local (rd : Option Nat) (id : Nat) : Local agrS (dfrOf rd id) := by
  unfold dfrOf
  split
  · exact Local.bind agrS_ok (newB_local _ _) (fun _ => Local.pure agrS_ok _)
  · refine Local.bind agrS_ok (rdB_local _) (fun _ => ?_)
    repeat' (first | exact Local.pure agrS_ok _ | exact bad_local _ | split)
theorem enterL_local (u k : Nat) (rd : Option Nat) (f : FuncId) (p : List Nat) : Local agrT (enterL u k rd f p) := by
  unfold enterL
  refine Local.bind agrT_ok rdTs_local (fun tm => Local.bind agrT_ok (lift_local ?_) (fun d => ?_))
  · exact Local.bind agrS_ok (dfrOf_local _ _) (fun d => Local.bind agrS_ok (chk_local _) (fun _ => Local.bind agrS_ok (newB_local _ _) (fun _ => Local.pure agrS_ok _)))
  · split
    · exact Local.bind agrT_ok (pushD_local _) (fun _ => Local.pure agrT_ok _)
    · exact Local.pure agrT_ok _
theorem shutD_local (b : Nat) : Local agrS (shutD b) := by
  unfold shutD
  refine Local.bind agrS_ok (rdB_local _) (fun _ => ?_)
  split
  · exact wrB_local _ _
  · exact bad_local _
theorem rdDs_local : Local agrT rdDs := by
  constructor
  · intro s a s' r w h l hl
    cases h
    exact agrT_ok.refl _ _
  · intro s a s' r w h t ht
    cases h
    have : s.m.df = t.m.df := ht .dfr (by simp)
    exact ⟨t, by unfold rdDs; rw [this], fun l hl => by cases hl⟩
theorem evLeave_local {dcall : FuncId → List SV → Option SV → Nat → M Store (Option SV)} (hd : ∀ f vs x i, Local agrS (dcall f vs x i)) (u : Nat) : ∀ (l : List DS) (x : Option SV) (k : Nat), Local agrT (evLeave dcall u l x k)
  | [], x, k => by unfold evLeave; exact Local.pure agrT_ok _
  | .coll b :: l, x, k => by
    unfold evLeave
    exact Local.bind agrT_ok (lift_local (shutD_local b)) (fun _ => evLeave_local hd u l x k)
  | .call f vs cs :: l, x, k => by
    unfold evLeave
    exact Local.bind agrT_ok (lift_local (hd _ _ _ _)) (fun y => evLeave_local hd u l y (k + 1))
theorem inX_local {S : Type} {agr : S → S → Loc → Prop} (A : Agrees agr) (X : Ctx) (d : XD) (e : IE) : Local agr (inX X d e : M S Unit) := by
  unfold inX
  refine Local.bind A (decI_local A _ _ _ _) (fun t => Local.bind A (decI_local A _ _ _ _) (fun t => ?_))
  split
  · exact Local.pure A _
  · exact bad_local _
theorem loadX_local (P : Program) (X : Ctx) (t : TypeId) (j : Nat) (e : IE) (c : Nat) : Local agrS (loadX P X t j e c) := by
  unfold loadX
  split
  · refine Local.bind agrS_ok (inX_local agrS_ok _ _ _) (fun _ => ?_)
    repeat' (first | exact Local.pure agrS_ok _ | exact bad_local _ | split)
  · exact bad_local _
theorem inN_local {S : Type} {agr : S → S → Loc → Prop} (A : Agrees agr) (X : Ctx) (n : Nat) (e : IE) : Local agr (inN X n e : M S Unit) := by
  unfold inN
  refine Local.bind A (decI_local A _ _ _ _) (fun t => Local.bind A (decI_local A _ _ _ _) (fun t => ?_))
  split
  · exact Local.pure A _
  · exact bad_local _
theorem addrS_local (X : Ctx) (len n b off : Nat) (e : IE) : Local agrS (addrS X len n b off e) := by
  unfold addrS
  split
  · exact Local.bind agrS_ok (inN_local agrS_ok _ _ _) (fun _ => Local.pure agrS_ok _)
  · exact Local.bind agrS_ok (place_local agrS_ok _ _ _) (fun _ => Local.pure agrS_ok _)
theorem loadV_local (P : Program) (X : Ctx) (t : TypeId) (b off sz n : Nat) (e : IE) (c : Nat) : Local agrS (loadV P X t b off sz n e c) := by
  unfold loadV
  refine Local.bind agrS_ok (inN_local agrS_ok _ _ _) (fun _ => Local.bind agrS_ok (rdB_local _) (fun B => ?_))
  repeat' (first | exact Local.pure agrS_ok _ | exact bad_local _ | split)
theorem capS_local (x : SV) : Local agrS (capS x) := by
  unfold capS
  split
  · refine Local.bind agrS_ok (rdB_local _) (fun B => ?_)
    split
    · exact Local.pure agrS_ok _
    · exact bad_local _
  · exact Local.pure agrS_ok _
theorem evOp_local (P : Program) (X : Ctx) {call rnd : Nat → List SV → Nat → M Store SV} (hc : ∀ f vs i, Local agrS (call f vs i)) (hd : ∀ f vs i, Local agrS (rnd f vs i)) (id : Nat) (o : Op) (vs : List SV) :
    Local agrS (evOp P X call rnd id o vs) := by
  unfold evOp
  repeat' (first
    | exact Local.pure agrS_ok _
    | exact bad_local _
    | exact hc _ _ _
    | exact hd _ _ _
    | exact loadS_local _ _ _ _
    | exact loadX_local _ _ _ _ _ _
    | exact loadV_local _ _ _ _ _ _ _ _ _
    | exact addrS_local _ _ _ _ _ _
    | refine Local.bind agrS_ok (inX_local agrS_ok _ _ _) (fun t => ?_)
    | exact storeS_local _ _ _ _ _
    | exact binS_local _ _ _ _ _ _
    | exact builtinS_local _ _ _ _ _ _
    | exact convS_local _ _ _ _ _ _
    | exact makeSliceS_local _ _ _ _ _
    | exact insertS_local _ _ _ _ _ _
    | exact lookupS_local _ _ _ _ _ _
    | refine Local.bind agrS_ok (dec_local agrS_ok _ _) (fun t => ?_)
    | refine Local.bind agrS_ok (capS_local _) (fun t => ?_)
    | refine Local.bind agrS_ok (decI_local agrS_ok _ _ _ _) (fun t => ?_)
    | refine Local.bind agrS_ok (chk_local _) (fun t => ?_)
    | refine Local.bind agrS_ok (newB_local _ _) (fun t => ?_)
    | refine Local.bind agrS_ok (newR_local _ _) (fun t => ?_)
    | refine Local.bind agrS_ok (place_local agrS_ok _ _ _) (fun t => ?_)
    | split)
theorem rdOp_local (x : Operand) : Local agrT (rdOp x) := by
  unfold rdOp
  split
  · refine Local.bind agrT_ok (rdT_local _) (fun v => ?_)
    split
    · exact Local.fail _
    · exact bad_local _
    · exact Local.pure agrT_ok _
  · exact Local.pure agrT_ok _
  · exact Local.pure agrT_ok _
  · exact bad_local _
theorem rdAll_local : ∀ l : List Operand, Local agrT (rdAll l)
  | [] => by unfold rdAll; exact Local.pure agrT_ok _
  | x :: l => by
    unfold rdAll
    exact Local.bind agrT_ok (rdOp_local x) (fun v => Local.bind agrT_ok (rdAll_local l) (fun vs => Local.pure agrT_ok _))
theorem putS_local (dst : Option Tmp) (v : SV) : Local agrT (putS dst v) := by
  unfold putS
  split
  · exact wrT_local _ _
  · exact Local.pure agrT_ok _
theorem wants_local (X : Ctx) (ops : Array Oper) (o : Oper) : Local agrT (wants X ops o) := by
  unfold wants
  split
  · exact Local.pure agrT_ok _
  · split
    · exact Local.pure agrT_ok _
    · refine Local.bind agrT_ok (rdT_local _) (fun v => ?_)
      split
      · exact Local.bind agrT_ok (dec_local agrT_ok _ _) (fun x => Local.pure agrT_ok _)
      · exact Local.pure agrT_ok _
      · exact bad_local _
theorem evOper_local (P : Program) (X : Ctx) {call rnd : Nat → List SV → Nat → M Store SV} (hc : ∀ f vs i, Local agrS (call f vs i)) (hd : ∀ f vs i, Local agrS (rnd f vs i)) (id : Nat) (ops : Array Oper) (o : Oper) :
    Local agrT (evOper P X call rnd id ops o) := by
  unfold evOper
  refine Local.bind agrT_ok (wants_local X ops o) (fun w => ?_)
  split
  · refine Local.bind agrT_ok (rdAll_local _) (fun vs => Local.bind agrT_ok (lift_local ?_) (fun v => ?_))
    · exact Local.bind agrS_ok (evOp_local P X hc hd _ _ _) (fun v => Local.bind agrS_ok (chk_local _) (fun _ => Local.pure agrS_ok _))
    · split
      · split
        · exact Local.pure agrT_ok _
        · exact bad_local _
      · exact Local.bind agrT_ok (putS_local _ _) (fun _ => Local.pure agrT_ok _)
  · exact Local.bind agrT_ok (putS_local _ _) (fun _ => Local.pure agrT_ok _)
theorem evOperD_local (P : Program) (X : Ctx) {call rnd : Nat → List SV → Nat → M Store SV} (hc : ∀ f vs i, Local agrS (call f vs i)) (hd : ∀ f vs i, Local agrS (rnd f vs i)) (id : Nat) (ops : Array Oper) (o : Oper) :
    Local agrT (evOperD P X call rnd id ops o) := by
  unfold evOperD
  refine Local.bind agrT_ok (evOper_local P X hc hd id ops o) (fun r => ?_)
  split
  · exact Local.pure agrT_ok _
  · exact bad_local _
theorem evDefer_local (X : Ctx) (ops : Array Oper) (o : Oper) : Local agrT (evDefer X ops o) := by
  unfold evDefer
  refine Local.bind agrT_ok (wants_local X ops o) (fun w => ?_)
  split
  · split
    · refine Local.bind agrT_ok (rdOp_local _) (fun v => Local.bind agrT_ok (rdAll_local _) (fun vs => ?_))
      split
      · exact Local.bind agrT_ok (pushD_local _) (fun _ => putS_local _ _)
      · exact bad_local _
    · exact bad_local _
  · exact putS_local _ _
theorem evOps_local (P : Program) (X : Ctx) {call rnd : Nat → List SV → Nat → M Store SV} (hc : ∀ f vs i, Local agrS (call f vs i)) (hd : ∀ f vs i, Local agrS (rnd f vs i)) (u : Nat) (ops : Array Oper) :
    ∀ (l : List Oper) (k : Nat), Local agrT (evOps P X call rnd u ops l k)
  | [], k => by unfold evOps; exact Local.pure agrT_ok _
  | o :: l, k => by
    unfold evOps
    exact Local.bind agrT_ok (touched_local (evOperD_local P X hc hd _ _ _)) (fun f => Local.bind agrT_ok (evOps_local P X hc hd u ops l (k + 1)) (fun fs => Local.pure agrT_ok _))
theorem evSeq_local (P : Program) (X : Ctx) {call rnd : Nat → List SV → Nat → M Store SV} (hc : ∀ f vs i, Local agrS (call f vs i)) (hd : ∀ f vs i, Local agrS (rnd f vs i)) (rd : Option Nat) (u : Nat) (ops : Array Oper) :
    ∀ (l : List Oper) (k : Nat), Local agrT (evSeq P X call rnd rd u ops l k)
  | [], k => by unfold evSeq; exact Local.pure agrT_ok _
  | o :: l, k => by
    unfold evSeq
    split
    · split
      · exact Local.bind agrT_ok (evDefer_local X ops o) (fun _ => evSeq_local P X hc hd rd u ops l (k + 1))
      · exact bad_local _
    · refine Local.bind agrT_ok (evOper_local P X hc hd _ _ _) (fun r => ?_)
      split
      · exact evSeq_local P X hc hd rd u ops l (k + 1)
      · exact Local.pure agrT_ok _
theorem evRegion_local (P : Program) (X : Ctx) {call rnd : Nat → List SV → Nat → M Store SV} (hc : ∀ f vs i, Local agrS (call f vs i)) (hd : ∀ f vs i, Local agrS (rnd f vs i)) (rd : Option Nat) (ops : Array Oper) (draw : Bool) (u k : Nat) :
    Local agrT (evRegion P X call rnd rd ops draw u k) := by
  unfold evRegion
  split
  · refine Local.bind agrT_ok (evOps_local P X hc hd _ _ _ _) (fun fps => ?_)
    split
    · exact Local.pure agrT_ok _
    · exact bad_local _
  · exact Local.bind agrT_ok (evSeq_local P X hc hd _ _ _ _ _) (fun r => Local.pure agrT_ok _)
theorem evResults_local (P : Program) : ∀ l : List ResultVar, Local agrT (evResults P l)
  | [] => by unfold evResults; exact Local.pure agrT_ok _
  | .tmp t :: l => by
    unfold evResults
    exact Local.bind agrT_ok (rdOp_local _) (fun v => Local.bind agrT_ok (evResults_local P l) (fun vs => Local.pure agrT_ok _))
  | .cell t ty :: l => by
    unfold evResults
    refine Local.bind agrT_ok (rdOp_local _) (fun v => ?_)
    split
    · exact Local.bind agrT_ok (lift_local (Local.bind agrS_ok (loadS_local _ _ _ _) (fun v => Local.bind agrS_ok (chk_local _) (fun _ => Local.pure agrS_ok _)))) (fun v => Local.bind agrT_ok (evResults_local P l) (fun vs => Local.pure agrT_ok _))
    · exact bad_local _
theorem setAll_get : ∀ {l : List (Nat × Blk)} {st : Store} {b : Nat}, (∀ p ∈ l, (st.get p.1).isSome) → (∀ p ∈ l, p.1 ≠ b) → (setAll st l).get b = st.get b
  | [], st, b, _, _ => rfl
  | (c, C) :: l, st, b, h1, h2 => by
    have hc := h1 (c, C) (by simp)
    simp only [setAll]
    rw [setAll_get (fun p hp => ?_) (fun p hp => h2 p (by simp [hp])), Store.get_set st c b C hc, if_neg (h2 (c, C) (by simp))]
    rw [Store.get_set st c p.1 C hc]
    split
    · rfl
    · exact h1 p (by simp [hp])
theorem setAll_some : ∀ {l : List (Nat × Blk)} {st : Store} {b : Nat}, (∀ p ∈ l, (st.get p.1).isSome) → (((setAll st l).get b).isSome = (st.get b).isSome)
  | [], st, b, _ => rfl
  | (c, C) :: l, st, b, h1 => by
    have hc := h1 (c, C) (by simp)
    simp only [setAll]
    rw [setAll_some (fun p hp => ?_), Store.get_set st c b C hc]
    · split
      · rename_i e; subst e; simp [hc]
      · rfl
    · rw [Store.get_set st c p.1 C hc]
      split
      · rfl
      · exact h1 p (by simp [hp])
/-- what is in a block behind all that was set hangs on its being set alone -/
theorem setAll_agree : ∀ {l : List (Nat × Blk)} {s t : Store} {b : Nat}, (∀ p ∈ l, (s.get p.1).isSome) → (∀ p ∈ l, (t.get p.1).isSome) → (s.get b = t.get b ∨ ∃ p ∈ l, p.1 = b) → (setAll s l).get b = (setAll t l).get b
  | [], s, t, b, _, _, h => by
    rcases h with h | ⟨p, hp, _⟩
    · exact h
    · cases hp
  | (c, C) :: l, s, t, b, h1, h2, h => by
    have hc := h1 (c, C) (by simp)
    have hd := h2 (c, C) (by simp)
    simp only [setAll]
    refine setAll_agree (fun p hp => ?_) (fun p hp => ?_) ?_
    · rw [Store.get_set s c p.1 C hc]; split
      · rfl
      · exact h1 p (by simp [hp])
    · rw [Store.get_set t c p.1 C hd]; split
      · rfl
      · exact h2 p (by simp [hp])
    · rw [Store.get_set s c b C hc, Store.get_set t c b C hd]
      by_cases hcb : c = b
      · left; rw [if_pos hcb, if_pos hcb]
      · rw [if_neg hcb, if_neg hcb]
        rcases h with h | ⟨p, hp, rfl⟩
        · exact .inl h
        · rcases List.mem_cons.1 hp with rfl | hp
          · exact absurd rfl hcb
          · exact .inr ⟨p, hp, rfl⟩
theorem sameIds_mem : ∀ {l m : List (Nat × Blk)}, sameIds l m = true → ∀ b, (∃ p ∈ m, p.1 = b) ↔ ∃ p ∈ l, p.1 = b
  | [], [], _, b => Iff.rfl
  | [], _ :: _, h, b => by simp [sameIds] at h
  | (b', B) :: _, [], h, b => by simp [sameIds] at h
  | (b1, B1) :: l, (c1, C1) :: m, h, b => by
    simp only [sameIds, Bool.and_eq_true, Nat.beq_eq] at h
    have ih := sameIds_mem h.2 b
    simp only [List.mem_cons, exists_eq_or_imp, ih, h.1.1]
theorem loopM_ok {L : LoopSum} {s s' : St} {e : Ex} {r w : List Loc} (h : loopM L s = .ok e s' r w) :
    e = L.ex ∧ s' = ⟨Tm.ofL L.tm' s.m.df, setAll s.st L.bl'⟩ ∧ L.ex.noPan = true ∧ tmBeq s.tm L.tm = true ∧ (∀ p ∈ L.bl, s.st.get p.1 = some p.2) ∧ sameIds L.bl L.bl' = true ∧ L.tm.length = L.tm'.length ∧ (∀ v ∈ L.tm', ∀ c ∈ v.ids, (s.st.get c).isSome) ∧ (∀ p ∈ L.bl', ∀ c ∈ SV.idsL p.2.cells, (s.st.get c).isSome)
    ∧ r = ((List.range (s.tm.length + 1)).map .tmp ++ L.bl.map (fun p => .blk p.1) ++ L.tm'.flatMap (fun v => v.ids.map .dom) ++ L.bl'.flatMap (fun p => (SV.idsL p.2.cells).map .dom))
    ∧ w = ((List.range s.tm.length).map .tmp ++ L.bl.map (fun p => .blk p.1)) := by
  unfold loopM at h
  rw [Tm.all_eq, show s.m.n = s.tm.length from s.m.hn.symm] at h
  split at h
  · rename_i hc
    simp only [Bool.and_eq_true, List.all_eq_true, Nat.beq_eq] at hc
    obtain ⟨⟨⟨⟨⟨⟨c0, c1⟩, c2⟩, c3⟩, c4⟩, c5⟩, c6⟩ := hc
    cases h
    refine ⟨rfl, rfl, c0, c1, fun p hp => ?_, c3, c4, c5, c6, rfl, rfl⟩
    have := c2 p hp
    cases hg : s.st.get p.1 with
    | none => simp [hg] at this
    | some B =>
      simp only [hg, blkBeq, Bool.and_eq_true, Nat.beq_eq] at this
      obtain ⟨ty, cells⟩ := B
      obtain ⟨b, ⟨ty', cells'⟩⟩ := p
      simp only at this ⊢
      rw [this.1, SV.beqL_eq this.2]
  · cases h
theorem SV.beq_refl_of {x y : SV} (h : x.beq y = true) : x = y := SV.beq_eq h
theorem loopM_local (L : LoopSum) : Local agrT (loopM L) := by
  constructor
  · intro s e s' r w h l hl
    obtain ⟨_, rfl, _, htm, hbl, hids, hlen, _, _, _, rfl⟩ := loopM_ok h
    have hsome : ∀ p ∈ L.bl', (s.st.get p.1).isSome := fun p hp => by
      obtain ⟨q, hq, e⟩ := (sameIds_mem hids p.1).1 ⟨p, hp, rfl⟩
      rw [← e, hbl q hq]; rfl
    cases l with
    | tmp i =>
      have hi : ¬ i < s.tm.length := fun hi => hl (by simp [hi])
      show L.tm'[i]? = s.tm[i]?
      rw [List.getElem?_eq_none (by rw [← hlen, ← (tmBeq_spec htm).1]; omega), List.getElem?_eq_none (by omega)]
    | dfr => rfl
    | key n => trivial
    | dom b => exact setAll_some hsome
    | blk b =>
      refine setAll_get hsome (fun p hp e => hl ?_)
      obtain ⟨q, hq, e2⟩ := (sameIds_mem hids b).1 ⟨p, hp, e⟩
      simp only [List.mem_append, List.mem_map]
      exact .inr ⟨q, hq, by rw [e2]⟩
  · intro s e s' r w h t ht
    have h0 := h
    obtain ⟨rfl, rfl, _, htm, hbl, hids, hlen, hc1, hc2, rfl, rfl⟩ := loopM_ok h
    have e1 : t.tm = s.tm := by
      have hle : t.tm.length ≤ s.tm.length := by
        have : s.tm[s.tm.length]? = t.tm[s.tm.length]? := ht (.tmp s.tm.length) (by simp)
        rw [List.getElem?_eq_none (by omega)] at this
        have := List.getElem?_eq_none_iff.1 this.symm
        exact this
      apply List.ext_getElem?
      intro i
      by_cases hi : i < s.tm.length
      · exact (ht (.tmp i) (by simp; omega)).symm
      · rw [List.getElem?_eq_none (by omega), List.getElem?_eq_none (by omega)]
    have e2 : ∀ p ∈ L.bl, t.st.get p.1 = s.st.get p.1 := fun p hp => (ht (.blk p.1) (by
      simp only [List.mem_append, List.mem_map]
      exact .inl (.inl (.inr ⟨p, hp, rfl⟩)))).symm
    have e3 : ∀ v ∈ L.tm', ∀ c ∈ v.ids, (s.st.get c).isSome = (t.st.get c).isSome := fun v hv c hc => ht (.dom c) (by
      simp only [List.mem_append, List.mem_flatMap, List.mem_map]
      exact .inl (.inr ⟨v, hv, c, hc, rfl⟩))
    have e4 : ∀ p ∈ L.bl', ∀ c ∈ SV.idsL p.2.cells, (s.st.get c).isSome = (t.st.get c).isSome := fun p hp c hc => ht (.dom c) (by
      simp only [List.mem_append, List.mem_flatMap, List.mem_map]
      exact .inr ⟨p, hp, c, hc, rfl⟩)
    have hs : ∀ p ∈ L.bl', (s.st.get p.1).isSome := fun p hp => by
      obtain ⟨q, hq, e⟩ := (sameIds_mem hids p.1).1 ⟨p, hp, rfl⟩
      rw [← e, hbl q hq]; rfl
    have ht' : ∀ p ∈ L.bl', (t.st.get p.1).isSome := fun p hp => by
      obtain ⟨q, hq, e⟩ := (sameIds_mem hids p.1).1 ⟨p, hp, rfl⟩
      rw [← e, e2 q hq, hbl q hq]; rfl
    refine ⟨⟨Tm.ofL L.tm' t.m.df, setAll t.st L.bl'⟩, ?_, fun l hl => ?_⟩
    · unfold loopM at h0 ⊢
      rw [Tm.all_eq, show s.m.n = s.tm.length from s.m.hn.symm] at h0
      rw [Tm.all_eq, show t.m.n = t.tm.length from t.m.hn.symm]
      split at h0
      · rename_i hc
        rw [if_pos]
        · rw [e1]
        · simp only [Bool.and_eq_true, List.all_eq_true] at hc ⊢
          obtain ⟨⟨⟨⟨⟨⟨c0, c1⟩, c2⟩, c3⟩, c4⟩, c5⟩, c6⟩ := hc
          exact ⟨⟨⟨⟨⟨⟨c0, by rw [show t.m.toList = s.tm from e1]; exact c1⟩, fun p hp => by rw [e2 p hp]; exact c2 p hp⟩, c3⟩, c4⟩, fun v hv c hc => by rw [← e3 v hv c hc]; exact c5 v hv c hc⟩, fun p hp c hc => by rw [← e4 p hp c hc]; exact c6 p hp c hc⟩
      · cases h0
    · simp only [List.mem_append, List.mem_map, List.mem_range] at hl
      rcases hl with ⟨i, _, rfl⟩ | ⟨p, hp, rfl⟩
      · rfl
      · refine setAll_agree hs ht' (.inl ?_)
        exact (e2 p hp).symm
theorem ev_local (P : Program) (X : Ctx) : ∀ n : Nat,
    (∀ f p c rd u k, Local agrT (evCode P X n f p c rd u k)) ∧ (∀ f p c rd u k, Local agrT (evLoop P X n f p c rd u k)) ∧ (∀ f vs i, Local agrS (evCall P X n f vs i)) ∧ (∀ b vs i, Local agrS (evRound P X n b vs i)) ∧ (∀ f vs x i, Local agrS (evDef P X n f vs x i))
  | 0 => ⟨fun f p c rd u k => (by unfold evCode; exact bad_local _), fun f p c rd u k => (by unfold evLoop; exact bad_local _), fun f vs i => (by unfold evCall; exact bad_local _), fun f vs i => (by unfold evRound; exact bad_local _), fun f vs x i => (by unfold evDef; exact bad_local _)⟩
  | n + 1 => by
    obtain ⟨h1, h2, h3, h4, h5⟩ := ev_local P X n
    refine ⟨fun f p c rd u k => ?_, fun f p c rd u k => ?_, fun f vs i => ?_, fun b vs i => ?_, fun f vs x i => ?_⟩
    · cases c <;> unfold evCode <;> dsimp only
      case region id ops draw => exact Local.bind agrT_ok (evRegion_local P X h3 h4 _ _ _ _ _) (fun _ => Local.pure agrT_ok _)
      case seq a b =>
        refine Local.bind agrT_ok (h1 _ _ _ _ _ _) (fun r => ?_)
        split
        · exact h1 _ _ _ _ _ _
        · exact Local.pure agrT_ok _
      case cond c x y =>
        refine Local.bind agrT_ok (rdOp_local _) (fun v => ?_)
        split
        · refine Local.bind agrT_ok (dec_local agrT_ok _ _) (fun t => ?_)
          split
          · exact h1 _ _ _ _ _ _
          · exact h1 _ _ _ _ _ _
        · exact bad_local _
      case block id c =>
        refine Local.bind agrT_ok (h1 _ _ _ _ _ _) (fun r => ?_)
        split
        · exact Local.pure agrT_ok _
        · exact Local.pure agrT_ok _
      case loop c =>
        split
        · exact Local.bind agrT_ok (loopM_local _) (fun _ => Local.pure agrT_ok _)
        · exact h2 _ _ _ _ _ _
      case rangeFunc g ps a b =>
        refine Local.bind agrT_ok (rdOp_local _) (fun v => ?_)
        split
        · refine Local.bind agrT_ok (enterL_local _ _ _ _ _) (fun b => Local.bind agrT_ok (lift_local ?_) (fun _ => Local.pure agrT_ok _))
          refine Local.bind agrS_ok (h3 _ _ _) (fun r => ?_)
          split
          · exact bad_local _
          · exact leaveL_local _
        · exact bad_local _
      case scope c => exact h1 _ _ _ _ _ _
      all_goals first | exact Local.pure agrT_ok _ | exact bad_local _
    · unfold evLoop
      refine Local.bind agrT_ok (h1 _ _ _ _ _ _) (fun r => ?_)
      split
      · exact h2 _ _ _ _ _ _
      · exact Local.pure agrT_ok _
    · unfold evCall
      repeat' (first
        | exact Local.pure agrS_ok _
        | exact bad_local _
        | exact Local.fail _
        | refine Local.bind agrS_ok (chk_local _) (fun _ => inFrame_local _ (Local.bind agrT_ok (h1 _ _ _ _ _ _) (fun r => ?_)))
        | refine Local.bind agrT_ok rdDs_local (fun ds => Local.bind agrT_ok (evLeave_local h5 _ _ _ _) (fun x => ?_))
        | refine Local.bind agrT_ok (evResults_local _ _) (fun _ => ?_)
        | exact Local.pure agrT_ok _
        | split)
    · unfold evRound
      refine Local.bind agrS_ok (roundL_local _ _ _) (fun q => Local.bind agrS_ok (chk_local _) (fun _ => inFrame_local _ (Local.bind agrT_ok (h1 _ _ _ _ _ _) (fun r => ?_))))
      split
      · exact Local.bind agrT_ok (lift_local (beginL_local _)) (fun _ => Local.bind agrT_ok (h1 _ _ _ _ _ _) (fun e => lift_local (endL_local _ _)))
      · exact bad_local _
    · unfold evDef
      repeat' (first
        | exact bad_local _
        | refine Local.bind agrS_ok (chk_local _) (fun _ => inFrame_local _ (Local.bind agrT_ok (putS_local _ _) (fun _ => Local.bind agrT_ok (h1 _ _ _ _ _ _) (fun r => ?_))))
        | refine Local.bind agrT_ok rdDs_local (fun ds => ?_)
        | exact Local.bind agrT_ok (evResults_local _ _) (fun _ => Local.pure agrT_ok _)
        | split)
end Ev
end Go.Proofs.Ytmgfnejiienghaa
