/- A checked evaluator: symbolic values, states, computations that tell what they touch. -/
import Derived.WalkKit
import Derived.Below
import Derived.Laws.CopyRow
import Derived.Laws.Rows
namespace Go.Proofs.Ytmgfnejiienghaa
open Go Go.RowKit
set_option linter.unusedVariables false
namespace Ev

/-- whole numbers: literals, variables, what Go reckons -/
inductive IE where
  | lit (n : Int)
  | var (i : Nat)
  | ar (op : BinOp) (k : IntKind) (a b : IE)
  | wr (k : IntKind) (a : IE)
  | mn (a b : IE)
  | mx (a b : IE)
  | pl (op : BinOp) (a b : IE)
  | ap (f : Nat) (a b c : IE)
  | tab (l : List Nat) (i : IE)
inductive BE where
  | lit (b : Bool)
  | var (i : Nat)
  | cmp (op : BinOp) (a b : IE)
  | not (a : BE)
  | and (a b : BE)
  | eqb (a b : BE)
/-- values: addresses name blocks of the state -/
inductive SV where
  | int (k : IntKind) (e : IE)
  | bool (b : BE)
  | raw (v : Value)
  | flt (k : FloatKind) (n : Nat)
  | str (n : Nat)
  | any
  | ptr (b : Nat) (off : Nat)
  | slice (b : Nat) (off len cap : Nat)
  | func (fn : Fn) (first captured : List SV)
  | iface (t : TypeId) (v : SV)
  | agg (cs : List SV)
  | tuple (vs : List SV)
  /-- a slice of the caller's; the address of a cell of one of its things -/
  | xs (j : Nat)
  | xp (j : Nat) (e : IE) (c : Nat)
  /-- a slice of a block whose end nobody knows: things of sz cells, the first d of them left out -/
  | sl (b : Nat) (sz len d : Nat)
  /-- a string, byte by byte -/
  | bts (l : List IE)
  /-- a map; a loop's yield -/
  | mp (b : Nat)
  | yld (b : Nat)
  /-- the head of a block that is no row of cells (0 a map, 1 to 4 a range over a function: ready, busy, done, left; 5, 6 its deferred calls: open, shut; 10 to 12 a pending jump: none, exit p, ret) -/
  | mark (k : Nat) (f : FuncId) (p : List Nat) (d : Nat)
  /-- what a call comes to that panics -/
  | panv (v : SV)
  /-- the address of a cell of one of n things of sz cells, in a block from a place on -/
  | pv (b : Nat) (off sz n : Nat) (e : IE) (c : Nat)

/-- a slice of the caller's: where it lies, how many cells each thing has; the whole block -/
structure Ext where
  blk : Nat
  off : Nat
  len : Nat
  cap : Nat
  sz : Nat
  c : Array Value
  ty : TypeId
  fr : Nat × Nat
  /-- an empty one: its address and capacity -/
  em : Option (Option Addr × Nat) := none
/-- what the variables stand for -/
structure Env where
  i : Nat → Int := fun _ => 0
  a : Nat → Int → Int → Int → Int := fun _ _ _ _ => 0
  b : Nat → Bool := fun _ => false
  f : Nat → Nat := fun _ => 0
  s : Nat → ByteArray := fun _ => ⟨#[]⟩
  x : Nat → Option Ext := fun _ => none

def bitsI (op : BinOp) (k : IntKind) (x y : Int) : Int :=
  let a := BitVec.ofInt k.bits x
  let b := BitVec.ofInt k.bits y
  match op with
  | .and => k.wrap (a &&& b).toNat
  | .or => k.wrap (a ||| b).toNat
  | .xor => k.wrap (a ^^^ b).toNat
  | .andNot => k.wrap (a &&& ~~~b).toNat
  | _ => 0
def arI (op : BinOp) (k : IntKind) (x y : Int) : Int :=
  match op with
  | .add => k.wrap (x + y)
  | .sub => k.wrap (x - y)
  | .mul => k.wrap (x * y)
  | .quo => k.wrap (x.tdiv y)
  | .rem => x.tmod y
  | .shl => k.wrap (x * 2 ^ (min y.toNat k.bits))
  | .shr => x.fdiv (2 ^ (min y.toNat k.bits))
  | op => bitsI op k x y
def cmpI (op : BinOp) (x y : Int) : Bool :=
  match op with
  | .eql => x == y
  | .neq => x != y
  | .lss => decide (x < y)
  | .leq => decide (x ≤ y)
  | .gtr => decide (x > y)
  | .geq => decide (x ≥ y)
  | _ => false
def mnI (x y : Int) : Int := if y < x then y else x
def mxI (x y : Int) : Int := if y > x then y else x

/-- without a bound -/
def plI (op : BinOp) (x y : Int) : Int :=
  match op with
  | .add => x + y
  | .sub => x - y
  | .mul => x * y
  | _ => 0
def tabI (l : List Nat) (i : Int) : Int := (l.getD i.toNat 0 : Nat)
def IE.den (ρ : Env) : IE → Int
  | .lit n => n
  | .var i => ρ.i i
  | .ar op k a b => arI op k (a.den ρ) (b.den ρ)
  | .wr k a => k.wrap (a.den ρ)
  | .mn a b => mnI (a.den ρ) (b.den ρ)
  | .mx a b => mxI (a.den ρ) (b.den ρ)
  | .pl op a b => plI op (a.den ρ) (b.den ρ)
  | .ap f a b c => ρ.a f (a.den ρ) (b.den ρ) (c.den ρ)
  | .tab l i => tabI l (i.den ρ)
def BE.den (ρ : Env) : BE → Bool
  | .lit b => b
  | .var i => ρ.b i
  | .cmp op a b => cmpI op (a.den ρ) (b.den ρ)
  | .not a => !(a.den ρ)
  | .and a b => a.den ρ && b.den ρ
  | .eqb a b => a.den ρ == b.den ρ
def xsV : Option Ext → Value
  | none => .slice none 0 0
  | some B =>
    match B.em with
    | some q => .slice q.1 0 q.2
    | none => .slice (some ⟨B.blk, B.off, none⟩) B.len B.cap
/-- one that is not empty -/
def Env.y (ρ : Env) (j : Nat) : Option Ext :=
  match ρ.x j with
  | some B =>
    match B.em with
    | some _ => none
    | none => some B
  | none => none
def xpV (o : Option Ext) (i c : Nat) : Value :=
  match o with
  | none => .pointer none
  | some B => .pointer (some ⟨B.blk, B.off + (i * B.sz + c), none⟩)
/-- where the number of cells of a block is told -/
def capK (b : Nat) : Nat := b * 1048576
def bytesI (l : List Int) : ByteArray := ⟨(l.map fun n => UInt8.ofNat n.toNat).toArray⟩
mutual
def SV.den (ρ : Env) (φ : Nat → Nat) : SV → Value
  | .int k e => .int k (e.den ρ)
  | .bool b => .bool (b.den ρ)
  | .raw v => v
  | .flt k n => .float k (ρ.f n)
  | .str n => .string (ρ.s n)
  | .any => undef
  | .ptr b off => .pointer (some ⟨φ b, off, none⟩)
  | .slice b off len cap => .slice (some ⟨φ b, off, none⟩) len cap
  | .func fn fs cs => .func fn (SV.denL ρ φ fs).toArray (SV.denL ρ φ cs).toArray
  | .iface t v => .iface t (v.den ρ φ)
  | .agg cs => .agg (SV.denL ρ φ cs).toArray
  | .tuple vs => .tuple (SV.denL ρ φ vs).toArray
  | .xs j => xsV (ρ.x j)
  | .xp j e c => xpV (ρ.x j) (e.den ρ).toNat c
  | .sl b sz len d => .slice (some ⟨φ b, d * sz, none⟩) len (φ (capK b) / sz - d)
  | .bts l => .string (bytesI (l.map (IE.den ρ)))
  | .mp b => .map (some (φ b))
  | .yld b => .func (.yield (φ b)) #[] #[]
  | .mark .. => undef
  | .panv _ => undef
  | .pv b off sz _ e c => .pointer (some ⟨φ b, off + ((e.den ρ).toNat * sz + c), none⟩)
def SV.denL (ρ : Env) (φ : Nat → Nat) : List SV → List Value
  | [] => []
  | v :: vs => v.den ρ φ :: SV.denL ρ φ vs
end
theorem denL_map (ρ : Env) (φ : Nat → Nat) : ∀ l : List SV, SV.denL ρ φ l = l.map (SV.den ρ φ)
  | [] => by simp [SV.denL]
  | v :: l => by simp [SV.denL, denL_map ρ φ l]

mutual
/-- the blocks that a value names -/
def SV.ids : SV → List Nat
  | .ptr b _ => [b]
  | .slice b _ _ _ => [b]
  | .func _ fs cs => SV.idsL fs ++ SV.idsL cs
  | .iface _ v => v.ids
  | .agg cs => SV.idsL cs
  | .tuple vs => SV.idsL vs
  | .sl b _ _ _ => [b]
  | .mp b => [b]
  | .yld b => [b]
  | .mark _ _ _ d => [d]
  | .panv v => v.ids
  | .pv b .. => [b]
  | _ => []
def SV.idsL : List SV → List Nat
  | [] => []
  | v :: vs => v.ids ++ SV.idsL vs
end
theorem mem_idsL {b : Nat} : ∀ {l : List SV}, b ∈ SV.idsL l ↔ ∃ v ∈ l, b ∈ v.ids
  | [] => by simp [SV.idsL]
  | v :: l => by simp [SV.idsL, mem_idsL (l := l)]
/-- two names of blocks agree on some -/
def Agr (φ φ' : Nat → Nat) (b : Nat) : Prop := φ' b = φ b ∧ φ' (capK b) = φ (capK b)
mutual
theorem den_congr (ρ : Env) (φ φ' : Nat → Nat) : ∀ v : SV, (∀ b ∈ v.ids, Agr φ φ' b) → v.den ρ φ' = v.den ρ φ
  | .int .., _ => rfl
  | .bool .., _ => rfl
  | .raw .., _ => rfl
  | .flt .., _ => rfl
  | .str .., _ => rfl
  | .any, _ => rfl
  | .xs _, _ => rfl
  | .xp .., _ => rfl
  | .bts _, _ => rfl
  | .mark .., _ => rfl
  | .panv _, _ => rfl
  | .pv b .., h => by simp [SV.den, (h b (by simp [SV.ids])).1]
  | .mp b, h => by simp [SV.den, (h b (by simp [SV.ids])).1]
  | .yld b, h => by simp [SV.den, (h b (by simp [SV.ids])).1]
  | .sl b _ _ _, h => by simp [SV.den, (h b (by simp [SV.ids])).1, (h b (by simp [SV.ids])).2]
  | .ptr b off, h => by simp [SV.den, (h b (by simp [SV.ids])).1]
  | .slice b off _ _, h => by simp [SV.den, (h b (by simp [SV.ids])).1]
  | .func fn fs cs, h => by
    simp only [SV.den]
    rw [denL_congr ρ φ φ' fs (fun b hb => h b (by simp [SV.ids, hb])), denL_congr ρ φ φ' cs (fun b hb => h b (by simp [SV.ids, hb]))]
  | .iface t v, h => by
    simp only [SV.den]
    rw [den_congr ρ φ φ' v (fun b hb => h b (by simpa [SV.ids] using hb))]
  | .agg cs, h => by
    simp only [SV.den]
    rw [denL_congr ρ φ φ' cs (fun b hb => h b (by simpa [SV.ids] using hb))]
  | .tuple cs, h => by
    simp only [SV.den]
    rw [denL_congr ρ φ φ' cs (fun b hb => h b (by simpa [SV.ids] using hb))]
theorem denL_congr (ρ : Env) (φ φ' : Nat → Nat) : ∀ l : List SV, (∀ b ∈ SV.idsL l, Agr φ φ' b) → SV.denL ρ φ' l = SV.denL ρ φ l
  | [], _ => rfl
  | v :: l, h => by
    simp only [SV.denL]
    rw [den_congr ρ φ φ' v (fun b hb => h b (by simp [SV.idsL, hb])), denL_congr ρ φ φ' l (fun b hb => h b (by simp [SV.idsL, hb]))]
end

/-- are they the same? (a Bool that the kernel reckons) -/
def IE.beq : IE → IE → Bool
  | .lit a, .lit b => decide (a = b)
  | .var a, .var b => Nat.beq a b
  | .ar o k a b, .ar o' k' a' b' => decide (o = o') && decide (k = k') && a.beq a' && b.beq b'
  | .wr k a, .wr k' a' => decide (k = k') && a.beq a'
  | .mn a b, .mn a' b' => a.beq a' && b.beq b'
  | .mx a b, .mx a' b' => a.beq a' && b.beq b'
  | .pl o a b, .pl o' a' b' => decide (o = o') && a.beq a' && b.beq b'
  | .ap f a b c, .ap f' a' b' c' => Nat.beq f f' && a.beq a' && b.beq b' && c.beq c'
  | .tab l i, .tab l' i' => decide (l = l') && i.beq i'
  | _, _ => false
theorem IE.beq_eq : ∀ {x y : IE}, x.beq y = true → x = y
  | .lit a, y, h => by cases y <;> simp_all [IE.beq]
  | .var a, y, h => by cases y <;> simp_all [IE.beq]
  | .ar o k a b, y, h => by
    cases y with
    | ar o' k' a' b' =>
      simp only [IE.beq, Bool.and_eq_true, decide_eq_true_eq] at h
      obtain ⟨⟨⟨rfl, rfl⟩, h1⟩, h2⟩ := h
      rw [IE.beq_eq h1, IE.beq_eq h2]
    | _ => simp [IE.beq] at h
  | .wr k a, y, h => by
    cases y with
    | wr k' a' =>
      simp only [IE.beq, Bool.and_eq_true, decide_eq_true_eq] at h
      obtain ⟨rfl, h1⟩ := h
      rw [IE.beq_eq h1]
    | _ => simp [IE.beq] at h
  | .mn a b, y, h => by
    cases y with
    | mn a' b' =>
      simp only [IE.beq, Bool.and_eq_true] at h
      rw [IE.beq_eq h.1, IE.beq_eq h.2]
    | _ => simp [IE.beq] at h
  | .mx a b, y, h => by
    cases y with
    | mx a' b' =>
      simp only [IE.beq, Bool.and_eq_true] at h
      rw [IE.beq_eq h.1, IE.beq_eq h.2]
    | _ => simp [IE.beq] at h
  | .pl o a b, y, h => by
    cases y with
    | pl o' a' b' =>
      simp only [IE.beq, Bool.and_eq_true, decide_eq_true_eq] at h
      obtain ⟨⟨rfl, h1⟩, h2⟩ := h
      rw [IE.beq_eq h1, IE.beq_eq h2]
    | _ => simp [IE.beq] at h
  | .ap f a b c, y, h => by
    cases y with
    | ap f' a' b' c' =>
      simp only [IE.beq, Bool.and_eq_true, Nat.beq_eq] at h
      obtain ⟨⟨⟨rfl, h1⟩, h2⟩, h3⟩ := h
      rw [IE.beq_eq h1, IE.beq_eq h2, IE.beq_eq h3]
    | _ => simp [IE.beq] at h
  | .tab l i, y, h => by
    cases y with
    | tab l' i' =>
      simp only [IE.beq, Bool.and_eq_true, decide_eq_true_eq] at h
      obtain ⟨rfl, h1⟩ := h
      rw [IE.beq_eq h1]
    | _ => simp [IE.beq] at h
def IE.beqL : List IE → List IE → Bool
  | [], [] => true
  | a :: as, b :: bs => a.beq b && IE.beqL as bs
  | _, _ => false
theorem IE.beqL_eq : ∀ {x y : List IE}, IE.beqL x y = true → x = y
  | [], [], _ => rfl
  | [], _ :: _, h => by simp [IE.beqL] at h
  | _ :: _, [], h => by simp [IE.beqL] at h
  | a :: as, b :: bs, h => by
    simp only [IE.beqL, Bool.and_eq_true] at h
    rw [IE.beq_eq h.1, IE.beqL_eq h.2]
def BE.beq : BE → BE → Bool
  | .lit a, .lit b => a == b
  | .var a, .var b => Nat.beq a b
  | .cmp o a b, .cmp o' a' b' => decide (o = o') && a.beq a' && b.beq b'
  | .not a, .not a' => a.beq a'
  | .and a b, .and a' b' => a.beq a' && b.beq b'
  | .eqb a b, .eqb a' b' => a.beq a' && b.beq b'
  | _, _ => false
theorem BE.beq_eq : ∀ {x y : BE}, x.beq y = true → x = y
  | .lit a, y, h => by cases y <;> simp_all [BE.beq]
  | .var a, y, h => by cases y <;> simp_all [BE.beq]
  | .cmp o a b, y, h => by
    cases y with
    | cmp o' a' b' =>
      simp only [BE.beq, Bool.and_eq_true, decide_eq_true_eq] at h
      obtain ⟨⟨rfl, h1⟩, h2⟩ := h
      rw [IE.beq_eq h1, IE.beq_eq h2]
    | _ => simp [BE.beq] at h
  | .not a, y, h => by
    cases y with
    | not a' => simp only [BE.beq] at h; rw [BE.beq_eq h]
    | _ => simp [BE.beq] at h
  | .and a b, y, h => by
    cases y with
    | and a' b' =>
      simp only [BE.beq, Bool.and_eq_true] at h
      rw [BE.beq_eq h.1, BE.beq_eq h.2]
    | _ => simp [BE.beq] at h
  | .eqb a b, y, h => by
    cases y with
    | eqb a' b' =>
      simp only [BE.beq, Bool.and_eq_true] at h
      rw [BE.beq_eq h.1, BE.beq_eq h.2]
    | _ => simp [BE.beq] at h
/-- of values that name no block -/
def rawBeq : Value → Value → Bool
  | .float .f64 a, .float .f64 b => Nat.beq a b
  | .float .f32 a, .float .f32 b => Nat.beq a b
  | .string a, .string b => decide (a.data.toList = b.data.toList)
  | .pointer none, .pointer none => true
  | .slice none a b, .slice none c d => Nat.beq a c && Nat.beq b d
  | .nilFunc, .nilFunc => true
  | .nilIface, .nilIface => true
  | .map none, .map none => true
  | .tuple a, .tuple b => a.isEmpty && b.isEmpty
  | _, _ => false
theorem rawBeq_eq {x y : Value} (h : rawBeq x y = true) : x = y := by
  unfold rawBeq at h
  split at h <;> simp_all
  rename_i a b
  cases a; cases b; simp_all
mutual
def SV.beq : SV → SV → Bool
  | .int k a, .int k' b => decide (k = k') && a.beq b
  | .bool a, .bool b => a.beq b
  | .raw a, .raw b => rawBeq a b
  | .flt k a, .flt k' b => decide (k = k') && Nat.beq a b
  | .str a, .str b => Nat.beq a b
  | .agg a, .agg b => SV.beqL a b
  | .tuple a, .tuple b => SV.beqL a b
  | .iface t a, .iface u b => Nat.beq t u && a.beq b
  | .func f a c, .func g b d => decide (f = g) && SV.beqL a b && SV.beqL c d
  | .ptr b off, .ptr c o => Nat.beq b c && Nat.beq off o
  | .slice b off n k, .slice c o m l => Nat.beq b c && Nat.beq off o && Nat.beq n m && Nat.beq k l
  | .xs j, .xs k => Nat.beq j k
  | .xp j e c, .xp k f d => Nat.beq j k && e.beq f && Nat.beq c d
  | .sl b sz n d, .sl c sy m e => Nat.beq b c && Nat.beq sz sy && Nat.beq n m && Nat.beq d e
  | .pv b o sz n e k, .pv c o' sy m f l => Nat.beq b c && Nat.beq o o' && Nat.beq sz sy && Nat.beq n m && e.beq f && Nat.beq k l
  | .bts l, .bts m => IE.beqL l m
  | .mp b, .mp c => Nat.beq b c
  | .yld b, .yld c => Nat.beq b c
  | .mark k f p d, .mark l g q e => Nat.beq k l && Nat.beq f g && decide (p = q) && Nat.beq d e
  | .panv a, .panv b => a.beq b
  | _, _ => false
def SV.beqL : List SV → List SV → Bool
  | [], [] => true
  | a :: as, b :: bs => a.beq b && SV.beqL as bs
  | _, _ => false
end
mutual
theorem SV.beq_eq : ∀ {x y : SV}, x.beq y = true → x = y
  | .int k a, y, h => by
    cases y with
    | int k' b => simp only [SV.beq, Bool.and_eq_true, decide_eq_true_eq] at h; obtain ⟨rfl, h⟩ := h; rw [IE.beq_eq h]
    | _ => simp [SV.beq] at h
  | .bool a, y, h => by
    cases y with
    | bool b => simp only [SV.beq] at h; rw [BE.beq_eq h]
    | _ => simp [SV.beq] at h
  | .raw a, y, h => by
    cases y with
    | raw b => simp only [SV.beq] at h; rw [rawBeq_eq h]
    | _ => simp [SV.beq] at h
  | .flt k a, y, h => by
    cases y with
    | flt k' b => simp only [SV.beq, Bool.and_eq_true, decide_eq_true_eq] at h; obtain ⟨rfl, h⟩ := h; rw [Nat.eq_of_beq_eq_true h]
    | _ => simp [SV.beq] at h
  | .str a, y, h => by
    cases y with
    | str b => simp only [SV.beq] at h; rw [Nat.eq_of_beq_eq_true h]
    | _ => simp [SV.beq] at h
  | .any, y, h => by simp [SV.beq] at h
  | .ptr b off, y, h => by
    cases y with
    | ptr c o => simp only [SV.beq, Bool.and_eq_true, Nat.beq_eq] at h; rw [h.1, h.2]
    | _ => simp [SV.beq] at h
  | .slice b off n k, y, h => by
    cases y with
    | slice c o m l => simp only [SV.beq, Bool.and_eq_true, Nat.beq_eq] at h; rw [h.1.1.1, h.1.1.2, h.1.2, h.2]
    | _ => simp [SV.beq] at h
  | .agg a, y, h => by
    cases y with
    | agg b => simp only [SV.beq] at h; rw [SV.beqL_eq h]
    | _ => simp [SV.beq] at h
  | .tuple a, y, h => by
    cases y with
    | tuple b => simp only [SV.beq] at h; rw [SV.beqL_eq h]
    | _ => simp [SV.beq] at h
  | .iface t a, y, h => by
    cases y with
    | iface u b => simp only [SV.beq, Bool.and_eq_true] at h; rw [Nat.eq_of_beq_eq_true h.1, SV.beq_eq h.2]
    | _ => simp [SV.beq] at h
  | .func f a c, y, h => by
    cases y with
    | func g b d => simp only [SV.beq, Bool.and_eq_true, decide_eq_true_eq] at h; obtain ⟨⟨rfl, h1⟩, h2⟩ := h; rw [SV.beqL_eq h1, SV.beqL_eq h2]
    | _ => simp [SV.beq] at h
  | .xs j, y, h => by
    cases y with
    | xs k => simp only [SV.beq, Nat.beq_eq] at h; rw [h]
    | _ => simp [SV.beq] at h
  | .xp j e c, y, h => by
    cases y with
    | xp k f d => simp only [SV.beq, Bool.and_eq_true, Nat.beq_eq] at h; rw [h.1.1, IE.beq_eq h.1.2, h.2]
    | _ => simp [SV.beq] at h
  | .pv b o sz n e k, y, h => by
    cases y with
    | pv c o' sy m f l => simp only [SV.beq, Bool.and_eq_true, Nat.beq_eq] at h; rw [h.1.1.1.1.1, h.1.1.1.1.2, h.1.1.1.2, h.1.1.2, IE.beq_eq h.1.2, h.2]
    | _ => simp [SV.beq] at h
  | .sl b sz n d, y, h => by
    cases y with
    | sl c sy m e => simp only [SV.beq, Bool.and_eq_true, Nat.beq_eq] at h; rw [h.1.1.1, h.1.1.2, h.1.2, h.2]
    | _ => simp [SV.beq] at h
  | .bts l, y, h => by
    cases y with
    | bts m => simp only [SV.beq] at h; rw [IE.beqL_eq h]
    | _ => simp [SV.beq] at h
  | .mp b, y, h => by
    cases y with
    | mp c => simp only [SV.beq, Nat.beq_eq] at h; rw [h]
    | _ => simp [SV.beq] at h
  | .yld b, y, h => by
    cases y with
    | yld c => simp only [SV.beq, Nat.beq_eq] at h; rw [h]
    | _ => simp [SV.beq] at h
  | .mark k f p d, y, h => by
    cases y with
    | mark l g q e =>
      simp only [SV.beq, Bool.and_eq_true, decide_eq_true_eq] at h
      obtain ⟨⟨⟨h1, h2⟩, h3⟩, h4⟩ := h
      rw [Nat.eq_of_beq_eq_true h1, Nat.eq_of_beq_eq_true h2, h3, Nat.eq_of_beq_eq_true h4]
    | _ => simp [SV.beq] at h
  | .panv a, y, h => by
    cases y with
    | panv b => simp only [SV.beq] at h; rw [SV.beq_eq h]
    | _ => simp [SV.beq] at h
theorem SV.beqL_eq : ∀ {x y : List SV}, SV.beqL x y = true → x = y
  | [], y, h => by
    cases y with
    | nil => rfl
    | cons _ _ => simp [SV.beqL] at h
  | a :: as, y, h => by
    cases y with
    | nil => simp [SV.beqL] at h
    | cons b bs => simp only [SV.beqL, Bool.and_eq_true] at h; rw [SV.beq_eq h.1, SV.beqL_eq h.2]
end

/-- a place: a temporary; is a block there; what is in it -/
inductive Loc where
  | tmp (t : Nat)
  | dom (b : Nat)
  | blk (b : Nat)
  | dfr
  /-- no place: tells of the key under which a map is laid something -/
  | key (n : Int)
  deriving DecidableEq
def Loc.beq : Loc → Loc → Bool
  | .tmp a, .tmp b => Nat.beq a b
  | .dom a, .dom b => Nat.beq a b
  | .blk a, .blk b => Nat.beq a b
  | .dfr, .dfr => true
  | .key a, .key b => decide (a = b)
  | _, _ => false
theorem Loc.beq_iff {x y : Loc} : x.beq y = true ↔ x = y := by
  cases x <;> cases y <;> simp [Loc.beq]
def Loc.has (l : List Loc) (x : Loc) : Bool := l.any (·.beq x)
theorem Loc.has_iff {l : List Loc} {x : Loc} : Loc.has l x = true ↔ x ∈ l := by
  simp only [Loc.has, List.any_eq_true]
  constructor
  · rintro ⟨y, hy, h⟩; rw [Loc.beq_iff] at h; subst h; exact hy
  · exact fun h => ⟨x, h, Loc.beq_iff.2 rfl⟩
def Loc.isTmp : Loc → Bool
  | .tmp _ => true
  | .dfr => true
  | _ => false

inductive Err where
  | need (b : BE)
  | call (f : FuncId) (args : List SV)
  | stuck (why : String)
  | loop (tm : List SV) (st : List (Nat × TypeId × List SV))
/-- what a computation comes to: its value, the state, what it read, what it wrote -/
inductive R (S α : Type) where
  | ok (a : α) (s : S) (r w : List Loc)
  | err (e : Err)
def M (S α : Type) := S → R S α
def M.pure {S α : Type} (a : α) : M S α := fun s => .ok a s [] []
def M.bind {S α β : Type} (m : M S α) (f : α → M S β) : M S β := fun s =>
  match m s with
  | .ok a s1 r1 w1 =>
    match f a s1 with
    | .ok b s2 r2 w2 => .ok b s2 (r1 ++ r2) (w1 ++ w2)
    | .err e => .err e
  | .err e => .err e
instance {S : Type} : Monad (M S) where
  pure := M.pure
  bind := M.bind
def M.fail {S α : Type} (e : Err) : M S α := fun _ => .err e
theorem M.pure_ok {S α : Type} {a b : α} {s s' : S} {r w : List Loc} (h : (Pure.pure a : M S α) s = .ok b s' r w) : b = a ∧ s' = s ∧ r = [] ∧ w = [] := by
  change R.ok a s [] [] = _ at h
  cases h; exact ⟨rfl, rfl, rfl, rfl⟩
theorem M.bind_ok {S α β : Type} {m : M S α} {f : α → M S β} {s s' : S} {b : β} {r w : List Loc} (h : (m >>= f) s = .ok b s' r w) :
    ∃ a s1 r1 w1 r2 w2, m s = .ok a s1 r1 w1 ∧ f a s1 = .ok b s' r2 w2 ∧ r = r1 ++ r2 ∧ w = w1 ++ w2 := by
  change M.bind m f s = _ at h
  unfold M.bind at h
  split at h
  · rename_i a s1 r1 w1 hm
    split at h
    · rename_i b' s2 r2 w2 hf
      cases h
      exact ⟨a, s1, r1, w1, r2, w2, hm, hf, rfl, rfl⟩
    · cases h
  · cases h
theorem M.bind_of {S α β : Type} {m : M S α} {f : α → M S β} {s s1 s2 : S} {a : α} {b : β} {r1 w1 r2 w2 : List Loc} (h1 : m s = .ok a s1 r1 w1) (h2 : f a s1 = .ok b s2 r2 w2) :
    (m >>= f) s = .ok b s2 (r1 ++ r2) (w1 ++ w2) := by
  change M.bind m f s = _
  unfold M.bind
  simp only [h1, h2]

/-- one place at a time two states agree -/
structure Agrees {S : Type} (agr : S → S → Loc → Prop) : Prop where
  refl : ∀ s l, agr s s l
  symm : ∀ s t l, agr s t l → agr t s l
  trans : ∀ s t u l, agr s t l → agr t u l → agr s u l
/-- a computation does no more than it tells -/
structure Local {S α : Type} (agr : S → S → Loc → Prop) (m : M S α) : Prop where
  frame : ∀ s a s' r w, m s = .ok a s' r w → ∀ l, l ∉ w → agr s' s l
  stable : ∀ s a s' r w, m s = .ok a s' r w → ∀ t, (∀ l ∈ r, agr s t l) → ∃ t', m t = .ok a t' r w ∧ ∀ l ∈ w, agr s' t' l
section
variable {S : Type} {agr : S → S → Loc → Prop} (A : Agrees agr)
include A
theorem Local.pure {α : Type} (a : α) : Local agr (Pure.pure a : M S α) :=
  ⟨fun s b s' r w h l _ => by obtain ⟨_, rfl, _, _⟩ := M.pure_ok h; exact A.refl _ _,
   fun s b s' r w h t _ => by obtain ⟨rfl, rfl, rfl, rfl⟩ := M.pure_ok h; exact ⟨t, rfl, fun l hl => by cases hl⟩⟩
omit A in
theorem Local.fail {α : Type} (e : Err) : Local agr (M.fail e : M S α) :=
  ⟨fun s b s' r w h l _ => (by cases h), fun s b s' r w h t _ => (by cases h)⟩
theorem Local.bind {α β : Type} {m : M S α} {f : α → M S β} (hm : Local agr m) (hf : ∀ a, Local agr (f a)) : Local agr (m >>= f) := by
  constructor
  · intro s b s' r w h l hl
    obtain ⟨a, s1, r1, w1, r2, w2, h1, h2, rfl, rfl⟩ := M.bind_ok h
    simp only [List.mem_append, not_or] at hl
    exact A.trans _ _ _ _ ((hf a).frame _ _ _ _ _ h2 l hl.2) (hm.frame _ _ _ _ _ h1 l hl.1)
  · intro s b s' r w h t ht
    obtain ⟨a, s1, r1, w1, r2, w2, h1, h2, rfl, rfl⟩ := M.bind_ok h
    obtain ⟨t1, k1, e1⟩ := hm.stable _ _ _ _ _ h1 t (fun l hl => ht l (List.mem_append_left _ hl))
    have mid : ∀ l, l ∈ r2 ∨ l ∈ w1 → agr s t l ∨ l ∈ w1 → agr s1 t1 l := by
      intro l _ hl
      by_cases hw : l ∈ w1
      · exact e1 l hw
      · rcases hl with hl | hl
        · exact A.trans _ _ _ _ (hm.frame _ _ _ _ _ h1 l hw) (A.trans _ _ _ _ hl (A.symm _ _ _ (hm.frame _ _ _ _ _ k1 l hw)))
        · exact absurd hl hw
    obtain ⟨t2, k2, e2⟩ := (hf a).stable _ _ _ _ _ h2 t1 (fun l hl => mid l (.inl hl) (.inl (ht l (List.mem_append_right _ hl))))
    refine ⟨t2, M.bind_of k1 k2, fun l hl => ?_⟩
    by_cases hw : l ∈ w2
    · exact e2 l hw
    · have hl1 : l ∈ w1 := by
        rcases List.mem_append.1 hl with h | h
        · exact h
        · exact absurd h hw
      exact A.trans _ _ _ _ ((hf a).frame _ _ _ _ _ h2 l hw) (A.trans _ _ _ _ (e1 l hl1) (A.symm _ _ _ ((hf a).frame _ _ _ _ _ k2 l hw)))
end

/-- blocks -/
structure Blk where
  ty : TypeId
  cells : List SV
abbrev Store := List (Nat × Blk)
def Store.get : Store → Nat → Option Blk
  | [], _ => none
  | (c, B) :: st, b => if Nat.beq c b then some B else Store.get st b
def Store.set (st : Store) (b : Nat) (B : Blk) : Store := (b, B) :: st
theorem Store.get_cons (c b : Nat) (B : Blk) (st : Store) : Store.get ((c, B) :: st) b = if c = b then some B else Store.get st b := by
  simp only [Store.get, Nat.beq_eq]
theorem Store.get_set (st : Store) (b c : Nat) (B : Blk) (h : (st.get b).isSome) : (st.set b B).get c = if b = c then some B else st.get c := Store.get_cons b c B st
def agrS (s t : Store) : Loc → Prop
  | .tmp _ => True
  | .dfr => True
  | .key _ => True
  | .dom b => (s.get b).isSome = (t.get b).isSome
  | .blk b => s.get b = t.get b
theorem agrS_ok : Agrees agrS :=
  ⟨fun s l => by cases l <;> simp [agrS], fun s t l h => by cases l <;> simp_all [agrS], fun s t u l h k => by cases l <;> simp_all [agrS]⟩
/-- temporaries: those of the beginning, and what was written behind it, the last one first -/
inductive Chain where
  | base (l : List SV)
  | put (t : Nat) (v : SV) (m : Chain)
def Chain.get : Chain → Nat → Option SV
  | .base l, i => l[i]?
  | .put t v m, i => if Nat.beq t i then some v else m.get i
def Chain.toList : Chain → List SV
  | .base l => l
  | .put t v m => m.toList.set t v
def Chain.wf : Chain → Prop
  | .base _ => True
  | .put t _ m => m.wf ∧ t < m.toList.length
theorem Chain.get_eq : ∀ {m : Chain}, m.wf → ∀ i, m.get i = m.toList[i]?
  | .base l, _, i => rfl
  | .put t v m, h, i => by
    simp only [Chain.get, Chain.toList, Nat.beq_eq]
    by_cases hi : t = i
    · subst hi; rw [if_pos rfl, List.getElem?_set_self h.2]
    · rw [if_neg hi, List.getElem?_set_ne hi, Chain.get_eq h.1]
/-- a deferred call: what a range over a function leaves; a function with its arguments and what it captured -/
inductive DS where
  | coll (b : Nat)
  | call (f : FuncId) (vs cs : List SV)
def DS.ids : DS → List Nat
  | .coll b => [b]
  | .call _ vs cs => SV.idsL vs ++ SV.idsL cs
structure Tm where
  n : Nat
  c : Chain
  h : c.wf
  hn : c.toList.length = n
  df : List DS := []
def Tm.ofL (l : List SV) (df : List DS := []) : Tm := ⟨l.length, .base l, trivial, rfl, df⟩
instance : Coe (List SV) Tm := ⟨fun l => Tm.ofL l⟩
def Tm.get (m : Tm) (i : Nat) : Option SV := m.c.get i
def Tm.toList (m : Tm) : List SV := m.c.toList
theorem Tm.get_eq (m : Tm) (i : Nat) : m.get i = m.toList[i]? := Chain.get_eq m.h i
theorem Tm.lt_of_get {m : Tm} {i : Nat} {v : SV} (h : m.get i = some v) : i < m.toList.length := by
  rw [Tm.get_eq] at h
  exact (List.getElem?_eq_some_iff.1 h).1
theorem Tm.put_len (m : Tm) (t : Nat) (v : SV) : (Chain.put t v m.c).toList.length = m.n := by rw [← m.hn]; exact List.length_set
def Tm.put (m : Tm) (t : Nat) (v : SV) (h : t < m.toList.length) : Tm := ⟨m.n, .put t v m.c, ⟨m.h, h⟩, Tm.put_len m t v, m.df⟩
/-- all of them, one by one (as the kernel reckons it) -/
def Tm.allFrom (m : Tm) : Nat → Nat → List SV
  | 0, _ => []
  | n + 1, i => (m.get i).getD .any :: m.allFrom n (i + 1)
theorem Tm.allFrom_get (m : Tm) : ∀ (n i j : Nat), j < n → (m.allFrom n i)[j]? = some ((m.get (i + j)).getD .any)
  | 0, i, j, h => by omega
  | n + 1, i, 0, h => by simp [Tm.allFrom]
  | n + 1, i, j + 1, h => by
    simp only [Tm.allFrom, List.getElem?_cons_succ]
    rw [Tm.allFrom_get m n (i + 1) j (by omega), show i + 1 + j = i + (j + 1) by omega]
theorem Tm.allFrom_len (m : Tm) : ∀ (n i : Nat), (m.allFrom n i).length = n
  | 0, i => rfl
  | n + 1, i => by simp [Tm.allFrom, Tm.allFrom_len m n (i + 1)]
def Tm.all (m : Tm) : List SV := m.allFrom m.n 0
theorem Tm.all_eq (m : Tm) : m.all = m.toList := by
  have hl : m.n = m.toList.length := m.hn.symm
  apply List.ext_getElem?
  intro j
  unfold Tm.all
  by_cases h : j < m.n
  · rw [Tm.allFrom_get m _ _ _ h, Nat.zero_add, Tm.get_eq, List.getElem?_eq_getElem (by omega)]; rfl
  · rw [List.getElem?_eq_none (by rw [Tm.allFrom_len]; omega), List.getElem?_eq_none (by omega)]
/-- a frame's temporaries, and the blocks -/
structure St where
  m : Tm
  st : Store
abbrev St.tm (s : St) : List SV := s.m.toList
def St.setT (s : St) (t : Nat) (v : SV) : St := if h : t < s.tm.length then ⟨s.m.put t v h, s.st⟩ else s
theorem St.setT_tm (s : St) (t : Nat) (v : SV) : (s.setT t v).tm = s.tm.set t v := by
  unfold St.setT
  split
  · rfl
  · rename_i h; rw [List.set_eq_of_length_le (by omega)]
theorem St.setT_st (s : St) (t : Nat) (v : SV) : (s.setT t v).st = s.st := by
  unfold St.setT; split <;> rfl
theorem St.setT_df (s : St) (t : Nat) (v : SV) : (s.setT t v).m.df = s.m.df := by
  unfold St.setT; split <;> rfl
def agrT (s t : St) : Loc → Prop
  | .tmp i => s.tm[i]? = t.tm[i]?
  | .dfr => s.m.df = t.m.df
  | l => agrS s.st t.st l
theorem agrT_ok : Agrees agrT :=
  ⟨fun s l => by cases l <;> simp [agrT, agrS], fun s t l h => by cases l <;> simp_all [agrT, agrS], fun s t u l h k => by cases l <;> simp_all [agrT, agrS]⟩

/-- read, write, lay a block; look whether all blocks that a value names are there -/
def headIs : List SV → Bool
  | .mark .. :: _ => true
  | _ => false
def rdB (b : Nat) : M Store Blk := fun s =>
  match s.get b with
  | some B => .ok B s [.blk b] []
  | none => .err (.stuck "no such block")
def wrB (b : Nat) (B : Blk) : M Store Unit := fun s =>
  match s.get b with
  | some _ => .ok () (s.set b B) [.dom b] [.blk b]
  | none => .err (.stuck "no such block")
def newB (b : Nat) (B : Blk) : M Store Unit := fun s =>
  match s.get b with
  | none => if Nat.beq (b % 1048576) 0 then .err (.stuck "no name of a block") else .ok () ((b, B) :: s) [.dom b] [.dom b, .blk b]
  | some _ => .err (.stuck "the block is there")
/-- tells a key -/
def noteK (n : Int) : M Store Unit := fun s => .ok () s [.key n] []
theorem noteK_local (n : Int) : Local agrS (noteK n) := by
  constructor
  · intro s a s' r w h l hl
    cases h
    exact agrS_ok.refl _ _
  · intro s a s' r w h t ht
    cases h
    exact ⟨t, rfl, fun l hl => by cases hl⟩
def chk (l : List Nat) : M Store Unit := fun s =>
  if l.all (fun b => (s.get b).isSome) then .ok () s (l.map .dom) [] else .err (.stuck "a block that is not there")
theorem rdB_local (b : Nat) : Local agrS (rdB b) := by
  constructor
  · intro s a s' r w h l hl
    unfold rdB at h
    split at h <;> cases h
    exact agrS_ok.refl _ _
  · intro s a s' r w h t ht
    unfold rdB at h
    split at h <;> cases h
    rename_i hs
    have h1 : s.get b = t.get b := ht (.blk b) (by simp)
    exact ⟨t, by unfold rdB; rw [← h1, hs], fun l hl => by cases hl⟩
theorem wrB_local (b : Nat) (B : Blk) : Local agrS (wrB b B) := by
  constructor
  · intro s a s' r w h l hl
    unfold wrB at h
    split at h <;> cases h
    rename_i C hs
    have hg := fun c => Store.get_set s b c B (by simp [hs])
    cases l with
    | tmp i => trivial
    | dfr => trivial
    | key n => trivial
    | dom c =>
      simp only [agrS, hg]
      split
      · rename_i e; subst e; simp [hs]
      · rfl
    | blk c =>
      simp only [agrS, hg]
      rw [if_neg (fun e => hl (by simp [e]))]
  · intro s a s' r w h t ht
    unfold wrB at h
    split at h <;> cases h
    rename_i C hs
    have h1 : (s.get b).isSome = (t.get b).isSome := ht (.dom b) (by simp)
    have h2 : (t.get b).isSome := by rw [← h1, hs]; rfl
    obtain ⟨D, hD⟩ := Option.isSome_iff_exists.1 h2
    refine ⟨t.set b B, by unfold wrB; rw [hD], fun l hl => ?_⟩
    obtain rfl : l = .blk b := by simpa using hl
    simp [agrS, Store.get_set s b b B (by simp [hs]), Store.get_set t b b B h2]
theorem newB_local (b : Nat) (B : Blk) : Local agrS (newB b B) := by
  constructor
  · intro s a s' r w h l hl
    unfold newB at h
    split at h <;> try (cases h; done)
    split at h <;> cases h
    cases l with
    | tmp i => trivial
    | dfr => trivial
    | key n => trivial
    | dom c => simp only [agrS, Store.get_cons]; rw [if_neg (fun e => hl (by simp [e]))]
    | blk c => simp only [agrS, Store.get_cons]; rw [if_neg (fun e => hl (by simp [e]))]
  · intro s a s' r w h t ht
    unfold newB at h
    split at h <;> try (cases h; done)
    rename_i hs
    split at h <;> cases h
    rename_i hz
    have h1 : (s.get b).isSome = (t.get b).isSome := ht (.dom b) (by simp)
    rw [hs] at h1
    have h2 : t.get b = none := by cases ht2 : t.get b <;> simp_all
    refine ⟨(b, B) :: t, by unfold newB; rw [h2]; simp only; rw [if_neg hz], fun l hl => ?_⟩
    simp only [List.mem_cons, List.not_mem_nil, or_false] at hl
    rcases hl with rfl | rfl <;> simp [agrS, Store.get_cons]
theorem chk_local (l : List Nat) : Local agrS (chk l) := by
  constructor
  · intro s a s' r w h l' hl
    unfold chk at h
    split at h <;> cases h
    exact agrS_ok.refl _ _
  · intro s a s' r w h t ht
    unfold chk at h
    split at h <;> cases h
    rename_i hs
    refine ⟨t, ?_, fun l hl => by cases hl⟩
    unfold chk
    rw [if_pos]
    rw [List.all_eq_true] at hs ⊢
    intro b hb
    have h1 : (s.get b).isSome = (t.get b).isSome := ht (.dom b) (List.mem_map.2 ⟨b, hb, rfl⟩)
    rw [← h1]; exact hs b hb
/-- a computation over the blocks, in a frame -/
def lift {α : Type} (m : M Store α) : M St α := fun s =>
  match m s.st with
  | .ok a st r w => .ok a { s with st } (r.filter fun l => !l.isTmp) (w.filter fun l => !l.isTmp)
  | .err e => .err e
theorem lift_local {α : Type} {m : M Store α} (hm : Local agrS m) : Local agrT (lift m) := by
  constructor
  · intro s a s' r w h l hl
    unfold lift at h
    split at h <;> cases h
    rename_i st r w h
    cases l with
    | tmp i => rfl
    | dfr => rfl
    | key n => trivial
    | dom b => exact hm.frame _ _ _ _ _ h (.dom b) (fun hb => hl (List.mem_filter.2 ⟨hb, rfl⟩))
    | blk b => exact hm.frame _ _ _ _ _ h (.blk b) (fun hb => hl (List.mem_filter.2 ⟨hb, rfl⟩))
  · intro s a s' r w h t ht
    unfold lift at h
    split at h <;> cases h
    rename_i st r w h
    obtain ⟨t', k, e⟩ := hm.stable _ _ _ _ _ h t.st (fun l hl => by
      cases l with
      | tmp i => trivial
      | dfr => trivial
      | key n => trivial
      | dom b => exact ht (.dom b) (List.mem_filter.2 ⟨hl, rfl⟩)
      | blk b => exact ht (.blk b) (List.mem_filter.2 ⟨hl, rfl⟩))
    refine ⟨{ t with st := t' }, by unfold lift; rw [k], fun l hl => ?_⟩
    obtain ⟨hl1, hl2⟩ := List.mem_filter.1 hl
    cases l with
    | tmp i => simp [Loc.isTmp] at hl2
    | dfr => simp [Loc.isTmp] at hl2
    | key n => exact e _ hl1
    | dom b => exact e _ hl1
    | blk b => exact e _ hl1
theorem Tm.lt_of_blt {m : Tm} {t : Nat} (h : Nat.blt t m.n = true) : t < m.toList.length := by
  rw [show m.toList.length = m.n from m.hn]
  simpa [Nat.blt_eq] using h
def rdT (t : Nat) : M St SV := fun s =>
  match s.m.get t with
  | some v => .ok v s [.tmp t] []
  | none => .err (.stuck "no such temporary")
def wrT (t : Nat) (v : SV) : M St Unit := fun s =>
  match h : Nat.blt t s.m.n with
  | true => .ok () ⟨s.m.put t v (Tm.lt_of_blt h), s.st⟩ [.tmp t] [.tmp t]
  | false => .err (.stuck "no such temporary")
theorem rdT_eq (t : Nat) (s : St) : rdT t s = match s.tm[t]? with | some v => .ok v s [.tmp t] [] | none => .err (.stuck "no such temporary") := by
  unfold rdT; rw [Tm.get_eq]
theorem wrT_eq (t : Nat) (v : SV) (s : St) : wrT t v s = match s.tm[t]? with | some _ => .ok () (s.setT t v) [.tmp t] [.tmp t] | none => .err (.stuck "no such temporary") := by
  unfold wrT
  split
  · rename_i h
    have hlt := Tm.lt_of_blt h
    rw [List.getElem?_eq_getElem hlt]
    unfold St.setT
    rw [dif_pos hlt]
  · rename_i h
    have hlt : ¬ t < s.m.toList.length := by
      rw [show s.m.toList.length = s.m.n from s.m.hn]
      intro hh
      have : Nat.blt t s.m.n = true := by simpa [Nat.blt_eq] using hh
      rw [this] at h
      cases h
    rw [List.getElem?_eq_none (show s.tm.length ≤ t from Nat.le_of_not_lt hlt)]
theorem rdT_local (i : Nat) : Local agrT (rdT i) := by
  constructor
  · intro s a s' r w h l hl
    rw [rdT_eq] at h
    split at h <;> cases h
    exact agrT_ok.refl _ _
  · intro s a s' r w h t ht
    rw [rdT_eq] at h
    split at h <;> cases h
    rename_i hs
    have h1 : s.tm[i]? = t.tm[i]? := ht (.tmp i) (by simp)
    exact ⟨t, by rw [rdT_eq, ← h1, hs], fun l hl => by cases hl⟩
theorem wrT_local (i : Nat) (v : SV) : Local agrT (wrT i v) := by
  constructor
  · intro s a s' r w h l hl
    rw [wrT_eq] at h
    split at h <;> cases h
    cases l with
    | tmp j =>
      have hne : i ≠ j := fun e => hl (by simp [e])
      simp only [agrT]
      rw [St.setT_tm, List.getElem?_set_ne hne]
    | dfr => simp [agrT, St.setT_df]
    | key n => trivial
    | dom b => simp [agrT, agrS, St.setT_st]
    | blk b => simp [agrT, agrS, St.setT_st]
  · intro s a s' r w h t ht
    rw [wrT_eq] at h
    split at h <;> cases h
    rename_i u hs
    have h1 : s.tm[i]? = t.tm[i]? := ht (.tmp i) (by simp)
    have h2 : t.tm[i]? = some u := by rw [← h1]; exact hs
    refine ⟨t.setT i v, by rw [wrT_eq, h2], fun l hl => ?_⟩
    obtain rfl : l = .tmp i := by simpa using hl
    have l1 := (List.getElem?_eq_some_iff.1 hs).1
    have l2 := (List.getElem?_eq_some_iff.1 h2).1
    simp only [agrT]
    rw [St.setT_tm, St.setT_tm, List.getElem?_set_self l1, List.getElem?_set_self l2]
/-- a deferred call more; all temporaries -/
def pushD (d : DS) : M St Unit := fun s => .ok () ⟨{ s.m with df := d :: s.m.df }, s.st⟩ [.dfr] [.dfr]
theorem pushD_local (d : DS) : Local agrT (pushD d) := by
  constructor
  · intro s a s' r w h l hl
    cases h
    cases l with
    | tmp i => rfl
    | dfr => exact absurd (by simp) hl
    | key n => trivial
    | dom b => rfl
    | blk b => rfl
  · intro s a s' r w h t ht
    cases h
    refine ⟨_, rfl, fun l hl => ?_⟩
    obtain rfl : l = .dfr := by simpa using hl
    have : s.m.df = t.m.df := ht .dfr (by simp)
    show d :: s.m.df = d :: t.m.df
    rw [this]
def rdTs : M St (List SV) := fun s => .ok s.m.all s ((List.range (s.m.n + 1)).map .tmp) []
theorem tm_same {s t : St} (ht : ∀ l ∈ (List.range (s.m.n + 1)).map Loc.tmp, agrT s t l) : t.tm = s.tm := by
  have hn : s.m.n = s.tm.length := s.m.hn.symm
  have hle : t.tm.length ≤ s.tm.length := by
    have : s.tm[s.tm.length]? = t.tm[s.tm.length]? := ht (.tmp s.tm.length) (by simp [hn])
    rw [List.getElem?_eq_none (by omega)] at this
    exact List.getElem?_eq_none_iff.1 this.symm
  apply List.ext_getElem?
  intro i
  by_cases hi : i < s.tm.length
  · exact (ht (.tmp i) (by simp [hn]; omega)).symm
  · rw [List.getElem?_eq_none (by omega), List.getElem?_eq_none (by omega)]
theorem rdTs_local : Local agrT rdTs := by
  constructor
  · intro s a s' r w h l hl
    cases h
    exact agrT_ok.refl _ _
  · intro s a s' r w h t ht
    unfold rdTs at h
    cases h
    have e := tm_same ht
    refine ⟨t, ?_, fun l hl => by cases hl⟩
    unfold rdTs
    have e2 : t.m.n = s.m.n := by rw [← t.m.hn, ← s.m.hn]; exact congrArg List.length e
    rw [Tm.all_eq, Tm.all_eq, e2]
    rw [show t.m.toList = s.m.toList from e]
/-- a frame of its own -/
def inFrame {α : Type} (tm : List SV) (m : M St α) : M Store α := fun st =>
  match m ⟨Tm.ofL tm, st⟩ with
  | .ok a s r w => .ok a s.st (r.filter fun l => !l.isTmp) (w.filter fun l => !l.isTmp)
  | .err e => .err e
theorem inFrame_local {α : Type} (tm : List SV) {m : M St α} (hm : Local agrT m) : Local agrS (inFrame tm m) := by
  constructor
  · intro s a s' r w h l hl
    unfold inFrame at h
    split at h <;> cases h
    rename_i s2 r w h
    cases l with
    | tmp i => trivial
    | dfr => trivial
    | key n => trivial
    | dom b => exact hm.frame _ _ _ _ _ h (.dom b) (fun hb => hl (List.mem_filter.2 ⟨hb, rfl⟩))
    | blk b => exact hm.frame _ _ _ _ _ h (.blk b) (fun hb => hl (List.mem_filter.2 ⟨hb, rfl⟩))
  · intro s a s' r w h t ht
    unfold inFrame at h
    split at h <;> cases h
    rename_i s2 r w h
    obtain ⟨t', k, e⟩ := hm.stable _ _ _ _ _ h ⟨Tm.ofL tm, t⟩ (fun l hl => by
      cases l with
      | tmp i => rfl
      | dfr => rfl
      | key n => trivial
      | dom b => exact ht (.dom b) (List.mem_filter.2 ⟨hl, rfl⟩)
      | blk b => exact ht (.blk b) (List.mem_filter.2 ⟨hl, rfl⟩))
    refine ⟨t'.st, by unfold inFrame; rw [k], fun l hl => ?_⟩
    obtain ⟨hl1, hl2⟩ := List.mem_filter.1 hl
    cases l with
    | tmp i => simp [Loc.isTmp] at hl2
    | dfr => simp [Loc.isTmp] at hl2
    | key n => exact e _ hl1
    | dom b => exact e _ hl1
    | blk b => exact e _ hl1
/-- what a computation touched, as its value -/
def touched (m : M St Unit) : M St (List Loc × List Loc) := fun s =>
  match m s with
  | .ok _ s' r w => .ok (r, w) s' r w
  | .err e => .err e
theorem touched_local {m : M St Unit} (hm : Local agrT m) : Local agrT (touched m) := by
  constructor
  · intro s a s' r w h l hl
    unfold touched at h
    split at h <;> cases h
    rename_i h
    exact hm.frame _ _ _ _ _ h l hl
  · intro s a s' r w h t ht
    unfold touched at h
    split at h <;> cases h
    rename_i h
    obtain ⟨t', k, e⟩ := hm.stable _ _ _ _ _ h t ht
    exact ⟨t', by unfold touched; rw [k], e⟩
end Ev
end Go.Proofs.Ytmgfnejiienghaa
