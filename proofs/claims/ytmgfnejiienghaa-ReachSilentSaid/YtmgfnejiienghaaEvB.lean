/- A checked evaluator: what it does at each operation, region, code and call. -/
import Derived.Test.YtmgfnejiienghaaEvA
namespace Go.Proofs.Ytmgfnejiienghaa
open Go Go.RowKit
set_option linter.unusedVariables false
namespace Ev

inductive Ex where
  | normal
  | exit (id : Nat)
  | ret
/-- what a loop does: the frame's temporaries and some blocks ahead of it and behind it -/
structure LoopSum where
  tm : List SV
  bl : List (Nat × Blk)
  ex : Ex
  tm' : List SV
  bl' : List (Nat × Blk)
inductive EK where
  | int (k : IntKind)
  | bool
/-- a slice of the caller's: the variable that has its length; the functions that tell its things' cells, from the first one on; their kinds -/
structure XD where
  n : Nat
  f : Nat
  ks : List EK
/-- what is known: conditions with their answers; calls with their results; which functions are not gone into -/
structure Ctx where
  pc : List (BE × Bool)
  cr : List (FuncId × List SV × SV) := []
  stop : List FuncId := []
  /-- between what the variables, and the answers of functions, lie -/
  rg : List (Int × Int) := []
  ar : List (Int × Int) := []
  /-- functions by their contracts -/
  ct : List (BE × Bool) → FuncId → List SV → Option SV := fun _ _ _ => none
  /-- loops by theirs: the function, the way down to the loop, from the last step, and the call's number -/
  lp : FuncId → List Nat → Nat → Option LoopSum := fun _ _ _ => none
  /-- the caller's slices -/
  xs : List XD := []
  /-- what is reckoned, by variables that stand for it -/
  nm : List (IE × Nat) := []

def ofCell : Value → SV
  | .int k n => .int k (.lit n)
  | .bool b => .bool (.lit b)
  | v => .raw v
def ofValue : Value → SV
  | .agg cs => .agg (cs.toList.map ofCell)
  | v => ofCell v
/-- the value of one cell -/
def SV.one : SV → Bool
  | .int .. | .bool .. | .flt .. | .str .. | .ptr .. | .slice .. | .func .. | .iface .. | .xs .. | .xp .. => true
  | .raw v => v.oneCell'
  | _ => false
def SV.parts : SV → Option (List SV)
  | .agg cs => if cs.all SV.one then some cs else none
  | v => if v.one then some [v] else none

def mkAr (op : BinOp) (k : IntKind) (a b : IE) : IE :=
  match a, b with
  | .lit x, .lit y => .lit (arI op k x y)
  | a, b => .ar op k a b
def mkWr (k : IntKind) (a : IE) : IE :=
  match a with
  | .lit x => .lit (k.wrap x)
  | a => .wr k a
def mkMn (a b : IE) : IE :=
  match a, b with
  | .lit x, .lit y => .lit (mnI x y)
  | a, b => .mn a b
def mkMx (a b : IE) : IE :=
  match a, b with
  | .lit x, .lit y => .lit (mxI x y)
  | a, b => .mx a b
def mkTab (l : List Nat) (e : IE) : IE :=
  match e with
  | .lit n => .lit (tabI l n)
  | e => .tab l e
def mkCmp (op : BinOp) (a b : IE) : BE :=
  match a, b with
  | .lit x, .lit y => .lit (cmpI op x y)
  | a, b => .cmp op a b
def mkNot (a : BE) : BE :=
  match a with
  | .lit x => .lit (!x)
  | a => .not a
def mkAnd (a b : BE) : BE :=
  match a with
  | .lit true => b
  | .lit false => .lit false
  | a => .and a b
def mkEqb (a b : BE) : BE :=
  match a, b with
  | .lit x, .lit y => .lit (x == y)
  | a, b => .eqb a b

abbrev Iv := Option (Int × Int)
/-- the lesser of two -/
def loI (a b : Int) : Int := if decide (a ≤ b) then a else b
def hiI (a b : Int) : Int := if decide (a ≤ b) then b else a
def within (k : IntKind) (a b : Int) : Bool := decide (k.min ≤ a) && decide (b ≤ k.max)
def kindIv (k : IntKind) : Iv := some (k.min, k.max)
def fitIv (k : IntKind) (a b : Int) : Iv := if within k a b then some (a, b) else kindIv k
/-- what one known condition says of an expression's bounds -/
def refine1 (e : IE) (c : BE) (t : Bool) (v : Int × Int) : Int × Int :=
  match c, t with
  | .cmp .lss x (.lit n), true => if x.beq e then (v.1, loI v.2 (n - 1)) else v
  | .cmp .lss x (.lit n), false => if x.beq e then (hiI v.1 n, v.2) else v
  | .cmp .lss (.lit n) x, true => if x.beq e then (hiI v.1 (n + 1), v.2) else v
  | .cmp .lss (.lit n) x, false => if x.beq e then (v.1, loI v.2 n) else v
  | .cmp .eql x (.lit n), true => if x.beq e then (n, n) else v
  | _, _ => v
def refine (e : IE) : List (BE × Bool) → Int × Int → Int × Int
  | [], v => v
  | (c, t) :: l, v => refine e l (refine1 e c t v)
def ivAr (op : BinOp) (k : IntKind) (x y : Iv) : Iv :=
  match op with
  | .add => match x, y with
    | some (a, b), some (c, d) => fitIv k (a + c) (b + d)
    | _, _ => kindIv k
  | .sub => match x, y with
    | some (a, b), some (c, d) => fitIv k (a - d) (b - c)
    | _, _ => kindIv k
  | .mul => match x, y with
    | some (a, b), some (c, d) => if decide (0 ≤ a) && decide (0 ≤ c) then fitIv k (a * c) (b * d) else kindIv k
    | _, _ => kindIv k
  | .rem => match x, y with
    | some (a, b), some (c, d) => if decide (0 ≤ a) && decide (1 ≤ c) then some (0, loI b (d - 1)) else if decide (1 ≤ c) then some (-(d - 1), d - 1) else none
    | _, _ => none
  | .shr => match x, y with
    | some (a, b), some (c, d) => if decide (0 ≤ a) && decide (0 ≤ c) && decide (c = d) && decide (c ≤ k.bits) then some (a / 2 ^ c.toNat, b / 2 ^ c.toNat) else some (loI a 0, hiI b 0)
    | some (a, b), none => some (loI a 0, hiI b 0)
    | none, _ => none
  | .shl => match x, y with
    | some (a, b), some (c, d) => if decide (0 ≤ c) && decide (c = d) && decide (c ≤ k.bits) then fitIv k (a * 2 ^ c.toNat) (b * 2 ^ c.toNat) else kindIv k
    | _, _ => kindIv k
  | .quo => match x, y with
    | some (a, b), some (c, d) => if decide (0 ≤ a) && decide (1 ≤ c) then fitIv k 0 b else kindIv k
    | _, _ => kindIv k
  | .and => match x, y with
    | some (a, b), some (c, d) => if decide (0 ≤ a) && decide (0 ≤ c) then fitIv k 0 (loI b d) else kindIv k
    | _, _ => kindIv k
  | _ => kindIv k
def ivOp (op : BinOp) (x y : Iv) : Iv :=
  match x, y with
  | some (a, b), some (c, d) =>
    match op with
    | .add => some (a + c, b + d)
    | .sub => some (a - d, b - c)
    | .mul => if decide (0 ≤ a) && decide (0 ≤ c) then some (a * c, b * d) else none
    | _ => none
  | _, _ => none
def ivl (X : Ctx) : IE → Iv
  | .lit n => some (n, n)
  | .var i => (X.rg[i]?).map (refine (.var i) X.pc)
  | .ar op k a b => (ivAr op k (ivl X a) (ivl X b)).map (refine (.ar op k a b) X.pc)
  | .wr k a => (match ivl X a with
    | some (x, y) => fitIv k x y
    | none => kindIv k).map (refine (.wr k a) X.pc)
  | .mn a b => (match ivl X a, ivl X b with
    | some (x, y), some (z, u) => some (loI x z, loI y u)
    | _, _ => none : Iv).map (refine (.mn a b) X.pc)
  | .mx a b => (match ivl X a, ivl X b with
    | some (x, y), some (z, u) => some (hiI x z, hiI y u)
    | _, _ => none : Iv).map (refine (.mx a b) X.pc)
  | .pl op a b => (ivOp op (ivl X a) (ivl X b)).map (refine (.pl op a b) X.pc)
  | .ap f a b c => (X.ar[f]?).map (refine (.ap f a b c) X.pc)
  | .tab l i => if l.all (fun n => Nat.ble n 255) then some (0, 255) else none
/-- the kind's own bounds hold of it -/
def fits (X : Ctx) (k : IntKind) (e : IE) : Bool :=
  match ivl X e with
  | some (a, b) => within k a b
  | none => false
/-- a comparison that the bounds decide -/
def byIv0 (X : Ctx) (op : BinOp) (a b : IE) : Option Bool :=
  match ivl X a, ivl X b with
  | some (x, y), some (z, u) =>
    match op with
    | .lss => if decide (y < z) then some true else if decide (u ≤ x) then some false else none
    | .eql => if decide (y < z) || decide (u < x) then some false else if decide (x = y) && decide (z = u) && decide (x = z) then some true else none
    | _ => none
  | _, _ => none
def byIv (X : Ctx) (op : BinOp) (a b : IE) : Option Bool :=
  match op with
  | .eql => if a.beq b then some true else byIv0 X .eql a b
  | .lss => if a.beq b then some false else byIv0 X .lss a b
  | op => byIv0 X op a b
/-- Go's arithmetic, without its bound where it is not come to -/
def mkArY (X : Ctx) (op : BinOp) (k : IntKind) (a b : IE) : IE :=
  match mkAr op k a b with
  | .lit n => .lit n
  | e =>
    match op with
    | .add | .sub | .mul =>
      match ivOp op (ivl X a) (ivl X b) with
      | some (x, y) => if within k x y then .pl op a b else e
      | none => e
    | _ => e
def nameI : List (IE × Nat) → IE → IE
  | [], e => e
  | (d, v) :: l, e => if d.beq e then .var v else nameI l e
def mkArX (X : Ctx) (op : BinOp) (k : IntKind) (a b : IE) : IE := nameI X.nm (mkArY X op k a b)
def mkWrX (X : Ctx) (k : IntKind) (a : IE) : IE :=
  match mkWr k a with
  | .lit n => .lit n
  | e => if fits X k a then a else e
def look : List (BE × Bool) → BE → Option Bool
  | [], _ => none
  | (c, t) :: r, b => if c.beq b then some t else look r b
def lookC : List (FuncId × List SV × SV) → FuncId → List SV → Option SV
  | [], _, _ => none
  | (f, a, v) :: r, g, b => if Nat.beq f g && SV.beqL a b then some v else lookC r g b
def knownC (X : Ctx) (f : FuncId) (args : List SV) : Option SV :=
  match lookC X.cr f args with
  | some v => some v
  | none => X.ct X.pc f args
def atom {S : Type} (X : Ctx) (b : BE) : M S Bool :=
  match look X.pc b with
  | some t => pure t
  | none => M.fail (.need b)
def atomC {S : Type} (X : Ctx) (op : BinOp) (a b : IE) : M S Bool :=
  match byIv X op a b with
  | some t => pure t
  | none => atom X (.cmp op a b)
def decCmp {S : Type} (X : Ctx) (op : BinOp) (a b : IE) : M S Bool :=
  match op with
  | .neq => do let t ← atomC X .eql a b; pure (!t)
  | .leq => do let t ← atomC X .lss b a; pure (!t)
  | .gtr => atomC X .lss b a
  | .geq => do let t ← atomC X .lss a b; pure (!t)
  | op => atomC X op a b
def dec {S : Type} (X : Ctx) : BE → M S Bool
  | .lit b => pure b
  | .var i => atom X (.var i)
  | .not a => do let t ← dec X a; pure (!t)
  | .and a b => do
    let t ← dec X a
    if t then dec X b else pure false
  | .eqb a b => do
    let s ← dec X a
    let t ← dec X b
    pure (s == t)
  | .cmp op a b => decCmp X op a b
def decI {S : Type} (X : Ctx) (op : BinOp) (a b : IE) : M S Bool := dec X (mkCmp op a b)
def bad {S α : Type} (why : String) : M S α := M.fail (.stuck why)

def sizeS (P : Program) (t : TypeId) : Option Nat := (P.info? t).map (·.size)
def aggD : TypeDesc → Bool
  | .struct _ | .array _ _ => true
  | _ => false
def aggS (P : Program) (t : TypeId) : Option Bool := (P.underlying t).map aggD
def fieldsS (P : Program) (t : TypeId) : Option (Array Field) :=
  match P.underlying t with
  | some (.struct fs) => some fs
  | _ => none
def placeS (P : Program) (fs : Array Field) (i : Nat) : Option (Nat × Nat) :=
  match fs[i]? with
  | some f => (sizeS P f.type).map fun n => (f.offset, n)
  | none => none
/-- fill the parts of a struct, an array or a slice -/
def fillS (place : Nat → Option (Nat × Nat)) (cells : List SV) : List (Nat × SV) → Option (List SV)
  | [] => some cells
  | (i, v) :: rest =>
    match place i, v.parts with
    | some (off, size), some cs =>
      if Nat.beq cs.length size && Nat.ble (off + cs.length) cells.length then fillS place (cells.take off ++ cs ++ cells.drop (off + cs.length)) rest
      else none
    | _, _ => none
def partS (P : Program) (t : TypeId) (cs : List SV) (off : Nat) : Option SV :=
  match aggS P t with
  | some true => (sizeS P t).map fun n => .agg ((cs.drop off).take n)
  | some false => cs[off]?
  | none => none
def zeroS (P : Program) (t : TypeId) : Option (List SV) := ((P.info? t).bind (·.zero)).bind fun z => (ofValue z).parts

/-- load and store -/
def loadS (P : Program) (t : TypeId) (b off : Nat) : M Store SV := do
  let B ← rdB b
  match aggS P t with
  | some true =>
    match sizeS P t with
    | some n => if Nat.ble (off + n) B.cells.length then pure (.agg ((B.cells.drop off).take n)) else bad "load"
    | none => bad "load"
  | some false =>
    match B.cells[off]? with
    | some v => pure v
    | none => bad "load"
  | none => bad "load"
def storeS (P : Program) (t : TypeId) (b off : Nat) (v : SV) : M Store SV :=
  match v.parts, sizeS P t with
  | some cs, some n => do
    let B ← rdB b
    if Nat.beq cs.length n && Nat.ble (off + n) B.cells.length then
      wrB b { B with cells := B.cells.take off ++ cs ++ B.cells.drop (off + n) }
      pure (.raw undef)
    else bad "store"
  | _, _ => bad "store"

/-- which place of the first n it is: a literal, or asked one by one -/
def which {S : Type} (X : Ctx) (e : IE) : Nat → Nat → M S Nat
  | 0, _ => bad "index"
  | n + 1, j => do
    let t ← decI X .eql e (.lit j)
    if t then pure j else which X e n (j + 1)
def place {S : Type} (X : Ctx) (e : IE) (n : Nat) : M S Nat :=
  match e with
  | .lit (.ofNat j) => if Nat.blt j n then pure j else bad "index"
  | .lit _ => bad "index"
  | e => which X e n 0

def eqCells : List SV → List SV → Option BE
  | [], [] => some (.lit true)
  | .int k a :: as, .int l b :: bs => if k = l then (eqCells as bs).map (mkAnd (mkCmp .eql a b)) else none
  | .bool a :: as, .bool b :: bs => (eqCells as bs).map (mkAnd (mkEqb a b))
  | _, _ => none
/-- fields side by side, each an int or a bool -/
def plainFields (P : Program) (fs : List Field) (off : Nat) (cs : List SV) : Bool :=
  match fs, cs with
  | [], [] => true
  | f :: fs, c :: cs =>
    f.name != "_" && Nat.beq f.offset off &&
    (match P.underlying f.type, c with
     | some (.int _), .int .. => true
     | some .bool, .bool _ => true
     | _, _ => false) && plainFields P fs (off + 1) cs
  | _, _ => false
def binI (X : Ctx) (op : BinOp) (k l : IntKind) (a b : IE) : M Store SV :=
  match op with
  | .shl | .shr => do
    let t ← decI X .lss b (.lit 0)
    if t then bad "shift" else pure (.int k (mkArX X op k a b))
  | .quo | .rem =>
    if k = l then do
      let t ← decI X .eql b (.lit 0)
      if t then bad "by nought" else pure (.int k (mkArX X op k a b))
    else bad "kinds"
  | .add | .sub | .mul | .and | .or | .xor | .andNot => if k = l then pure (.int k (mkArX X op k a b)) else bad "kinds"
  | .eql | .neq | .lss | .leq | .gtr | .geq => if k = l then pure (.bool (mkCmp op a b)) else bad "kinds"
def eqlS (op : BinOp) (e : BE) : Option SV :=
  match op with
  | .eql => some (.bool e)
  | .neq => some (.bool (mkNot e))
  | _ => none
def boolS (op : BinOp) (d : Option TypeDesc) (a b : BE) : Option SV :=
  match d with
  | some .bool => eqlS op (mkEqb a b)
  | _ => none
def binS (P : Program) (X : Ctx) (op : BinOp) (t : TypeId) (x y : SV) : M Store SV :=
  match x, y with
  | .int k a, .int l b => binI X op k l a b
  | .bool a, .bool b =>
    match boolS op (P.underlying t) a b with
    | some v => pure v
    | none => bad "bools"
  | .agg as, .agg bs =>
    match fieldsS P t, eqCells as bs with
    | some fs, some e =>
      if plainFields P fs.toList 0 as && plainFields P fs.toList 0 bs && !P.stoodInHeld t && !P.eqGuardType P.depth t then
        match eqlS op e with
        | some v => pure v
        | none => bad "structs"
      else bad "structs"
    | _, _ => bad "structs"
  | _, _ => bad "operands"

def boundS (x : Option SV) (d : Nat) : Option Nat :=
  match x with
  | none => some d
  | some (.int _ (.lit (.ofNat n))) => some n
  | _ => none
/-- the operands of a slicing, as they are there -/
def sliceArgs (lo hi mx : Option Operand) (vs : List SV) : Option (SV × Option SV × Option SV) :=
  match lo, hi, mx, vs with
  | none, none, none, [x] => some (x, none, none)
  | some _, none, none, [x, l] => some (x, some l, none)
  | none, some _, none, [x, h] => some (x, none, some h)
  | some _, some _, none, [x, l, h] => some (x, some l, some h)
  | _, _, _, _ => none
def sliceS (P : Program) (t : TypeId) (x : SV) (lo hi : Option SV) : Option SV :=
  match P.underlying t, x with
  | some (.slice elem), .slice b off len cap =>
    match boundS lo 0, boundS hi len, sizeS P elem with
    | some l, some h, some n => if Nat.ble l h && Nat.ble h cap then some (.slice b (if Nat.beq cap l then off else off + l * n) (h - l) (cap - l)) else none
    | _, _, _ => none
  | some (.array m elem), .ptr b off =>
    match boundS lo 0, boundS hi m, sizeS P elem with
    | some l, some h, some n => if Nat.ble l h && Nat.ble h m then some (.slice b (if Nat.beq m l then off else off + l * n) (h - l) (m - l)) else none
    | _, _, _ => none
  | _, _ => none
def methodS (P : Program) (t : TypeId) (name : String) : Option FuncId :=
  match P.info? t with
  | some i =>
    match i.methods.find? (·.name == name) with
    | some m =>
      match m.path.toList, m.func with
      | [], some (f, ptr) =>
        match P.underlying t with
        | some (.pointer _) => if ptr then some f else none
        | some _ => if ptr then none else some f
        | none => none
      | _, _ => none
    | none => none
  | none => none
/-- a cell of a caller's thing -/
def cellX (f : Nat) (e : IE) : EK → SV
  | .int k => .int k (.ap f e (.lit 0) (.lit 0))
  | .bool => .bool (.cmp .eql (.ap f e (.lit 0) (.lit 0)) (.lit 1))
def cellsX (f : Nat) (e : IE) : List EK → List SV
  | [] => []
  | k :: ks => cellX f e k :: cellsX (f + 1) e ks
/-- is it a thing of the slice? -/
def inX {S : Type} (X : Ctx) (d : XD) (e : IE) : M S Unit := do
  let neg ← decI X .lss e (.lit 0)
  let low ← decI X .lss e (.var d.n)
  if !neg && low then pure () else bad "index"
def loadX (P : Program) (X : Ctx) (t : TypeId) (j : Nat) (e : IE) (c : Nat) : M Store SV :=
  match X.xs[j]? with
  | some d => do
    inX X d e
    match aggS P t with
    | some true =>
      match sizeS P t with
      | some n => if Nat.ble (c + n) d.ks.length then pure (.agg (cellsX (d.f + c) e ((d.ks.drop c).take n))) else bad "load"
      | none => bad "load"
    | some false =>
      match d.ks[c]? with
      | some k => pure (cellX (d.f + c) e k)
      | none => bad "load"
    | none => bad "load"
  | none => bad "load"
def builtinS (P : Program) (X : Ctx) (b : Builtin) (ts : Array TypeId) (vs : List SV) : M Store SV :=
  match b, vs with
  | .len, [.slice _ _ n _] =>
    match (ts[0]?).bind P.underlying with
    | some (.slice _) => pure (.int .i64 (.lit n))
    | _ => bad "len"
  | .len, [.raw (.slice _ n _)] =>
    match (ts[0]?).bind P.underlying with
    | some (.slice _) => pure (.int .i64 (.lit n))
    | _ => bad "len"
  | .len, [.xs j] =>
    match (ts[0]?).bind P.underlying, X.xs[j]? with
    | some (.slice _), some d => pure (.int .i64 (.var d.n))
    | _, _ => bad "len"
  | .min, [.int k a, .int l b] => if k = l then pure (.int k (mkMn a b)) else bad "min"
  | .max, [.int k a, .int l b] => if k = l then pure (.int k (mkMx a b)) else bad "max"
  | _, _ => bad "builtin"

/-- for the reader of a failure -/
def tagOf : Op → String
  | .nilCheck _ => "nilCheck"
  | .makeMap .. => "makeMap"
  | .insert .. => "insert"
  | .lookup .. => "lookup"
  | .load .. => "load"
  | .store .. => "store"
  | .slice .. => "slice"
  | .makeSlice .. => "makeSlice"
  | .convert .. => "convert"
  | .unOp .. => "unOp"
  | .index .. => "index"
  | .indexAddr .. => "indexAddr"
  | .fieldAddr .. => "fieldAddr"
  | .field .. => "field"
  | .pick .. => "pick"
  | .typeAssert .. => "typeAssert"
  | .panic _ => "panic"
  | .range .. => "range"
  | .next .. => "next"
  | .call ⟨.value _, _, _⟩ => "call"
  | .call ⟨.invoke _ _, _, _⟩ => "invoke"
  | .call _ => "builtin"
  | .defer _ => "defer"
  | _ => "operation"
def idxS (ps : Array (Nat × Operand)) : List Nat := ps.toList.map Prod.fst
def evOp (P : Program) (X : Ctx) (call : FuncId → List SV → Nat → M Store SV) (id : Nat) (o : Op) (vs : List SV) : M Store SV :=
  match o, vs with
  | .move _, [v] => pure v
  | .assign _, [v] => pure v
  | .pick _ _ _, [.bool c, a, b] => do
    let t ← dec X c
    pure (if t then a else b)
  | .alloc elem, [] =>
    match zeroS P elem with
    | some cs => do
      newB id ⟨elem, cs⟩
      pure (.ptr id 0)
    | none => bad "alloc"
  | .box elem _, [v] =>
    match v.parts with
    | some cs => do
      chk (SV.idsL cs)
      newB id ⟨elem, cs⟩
      pure (.ptr id 0)
    | none => bad "box"
  | .build t ps, vs =>
    match P.underlying t, zeroS P t with
    | some (.struct fs), some z =>
      match fillS (placeS P fs) z ((idxS ps).zip vs) with
      | some cs => if fs.all (fun f => (sizeS P f.type).isSome) then pure (.agg cs) else bad "build"
      | none => bad "build"
    | some (.array _ elem), some z =>
      match sizeS P elem with
      | some n =>
        match fillS (fun i => some (i * n, n)) z ((idxS ps).zip vs) with
        | some cs => pure (.agg cs)
        | none => bad "build"
      | none => bad "build"
    | _, _ => bad "build"
  | .buildSlice t len ps, vs =>
    match P.underlying t with
    | some (.slice elem) =>
      match sizeS P elem, zeroS P elem with
      | some n, some z =>
        if Nat.beq z.length n && Nat.ble (len * n) 16777216 then
          match fillS (fun i => some (i * n, n)) (List.replicate len z).flatten ((idxS ps).zip vs) with
          | some cs => do
            chk (SV.idsL cs)
            newB id ⟨elem, cs⟩
            pure (.slice id 0 len len)
          | none => bad "buildSlice"
        else bad "buildSlice"
      | _, _ => bad "buildSlice"
    | _ => bad "buildSlice"
  | .load t _, [.ptr b off] => loadS P t b off
  | .load t _, [.xp j e c] => loadX P X t j e c
  | .store t _ _, [.ptr b off, v] =>
    match v.parts with
    | some cs => do
      chk (SV.idsL cs)
      storeS P t b off v
    | none => bad "store"
  | .nilCheck _, [.ptr b off] => pure (.ptr b off)
  | .nilCheck _, [.slice b off n c] => pure (.slice b off n c)
  | .nilCheck _, [.func (.func f) a c] => pure (.func (.func f) a c)
  | .nilCheck _, [.iface t v] => pure (.iface t v)
  | .binOp op t _ _ _, [x, y] => binS P X op t x y
  | .unOp .neg _ _, [.int k a] => pure (.int k (mkArX X .sub k (.lit 0) a))
  | .unOp .xor _ _, [.int k a] => pure (.int k (mkAr .xor k (.lit (if k.signed then -1 else k.max)) a))
  | .unOp .not _ _, [.bool a] => pure (.bool (mkNot a))
  | .convert src dst _, [.int k a] =>
    match P.underlying src, P.underlying dst with
    | some _, some (.int l) => pure (.int l (mkWrX X l a))
    | _, _ => bad "convert"
  | .makeFunc fn first captured, vs => if Nat.beq vs.length (first.size + captured.size) then pure (.func fn (vs.take first.size) (vs.drop first.size)) else bad "makeFunc"
  | .makeInterface t _, [v] =>
    match P.underlying t with
    | some (.interface _) => bad "makeInterface"
    | some _ => pure (.iface t v)
    | none => bad "makeInterface"
  | .fieldAddr s _ i, [.ptr b off] =>
    match fieldsS P s with
    | some fs =>
      match fs[i]? with
      | some f =>
        match sizeS P f.type with
        | some (_ + 1) => pure (.ptr b (off + f.offset))
        | _ => bad "fieldAddr"
      | none => bad "fieldAddr"
    | none => bad "fieldAddr"
  | .fieldAddr s _ i, [.xp j e c] =>
    match X.xs[j]?, fieldsS P s with
    | some d, some fs =>
      match fs[i]? with
      | some f =>
        match sizeS P f.type with
        | some (_ + 1) => do
          inX X d e
          pure (.xp j e (c + f.offset))
        | _ => bad "fieldAddr"
      | none => bad "fieldAddr"
    | _, _ => bad "fieldAddr"
  | .indexAddr t _ _, [.ptr b off, .int _ e] =>
    match P.underlying t with
    | some (.array len elem) =>
      match sizeS P elem with
      | some n => do
        let j ← place X e len
        pure (.ptr b (off + j * n))
      | none => bad "indexAddr"
    | _ => bad "indexAddr"
  | .indexAddr t _ _, [.slice b off len _, .int _ e] =>
    match P.underlying t with
    | some (.slice elem) =>
      match sizeS P elem with
      | some n => do
        let j ← place X e len
        pure (.ptr b (off + j * n))
      | none => bad "indexAddr"
    | _ => bad "indexAddr"
  | .indexAddr t _ _, [.xs j, .int _ e] =>
    match P.underlying t, X.xs[j]? with
    | some (.slice elem), some d =>
      match sizeS P elem with
      | some n =>
        if Nat.beq n d.ks.length then do
          inX X d e
          pure (.xp j e 0)
        else bad "indexAddr"
      | none => bad "indexAddr"
    | _, _ => bad "indexAddr"
  | .slice t _ lo hi mx, vs =>
    match sliceArgs lo hi mx vs with
    | some (x, l, h) =>
      match sliceS P t x l h with
      | some v => pure v
      | none => bad "slice"
    | none => bad "slice"
  | .field t _ i, [.agg cs] =>
    match fieldsS P t with
    | some fs =>
      match fs[i]? with
      | some f => match partS P f.type cs f.offset with
        | some v => pure v
        | none => bad "field"
      | none => bad "field"
    | none => bad "field"
  | .index t _ _, [.agg cs, .int _ e] =>
    match P.underlying t with
    | some (.array len elem) =>
      match sizeS P elem with
      | some n => do
        let j ← place X e len
        match partS P elem cs (j * n) with
        | some v => pure v
        | none => bad "index"
      | none => bad "index"
    | _ => bad "index"
  | .index t _ _, [.raw (.string s), .int _ e] =>
    match P.underlying t with
    | some .string => do
      let neg ← decI X .lss e (.lit 0)
      let big ← decI X .lss e (.lit s.size)
      if !neg && big then pure (.int .u8 (mkTab (s.data.toList.map UInt8.toNat) e)) else bad "index"
    | _ => bad "index"
  | .extract _ i, [.tuple vs] =>
    match vs[i]? with
    | some v => pure v
    | none => bad "extract"
  | .call ⟨.builtin b, _, ts⟩, vs => builtinS P X b ts vs
  | .call ⟨.value _, _, _⟩, .func (.func f) fs cs :: vs => call f (fs ++ vs ++ cs) id
  | .call ⟨.invoke _ name, _, _⟩, .iface t v :: vs =>
    match methodS P t name with
    | some f => call f (v :: vs) id
    | none => bad "invoke"
  | o, _ => bad (tagOf o)

def rdOp (x : Operand) : M St SV :=
  match x with
  | .tmp t => do
    let v ← rdT t
    match v with
    | .any => M.fail (.call t [])
    | v => pure v
  | .const v => pure (ofValue v)
  | .func f => pure (.func (.func f) [] [])
  | .global _ => bad "global"
def rdAll : List Operand → M St (List SV)
  | [] => pure []
  | x :: xs => do
    let v ← rdOp x
    let vs ← rdAll xs
    pure (v :: vs)
def putS (dst : Option Tmp) (v : SV) : M St Unit :=
  match dst with
  | some t => wrT t v
  | none => pure ()
def wants (X : Ctx) (ops : Array Oper) (o : Oper) : M St Bool :=
  match o.guard with
  | none => pure true
  | some (j, want) =>
    match (ops[j]?).bind (·.dst) with
    | none => pure false
    | some t => do
      let v ← rdT t
      match v with
      | .bool b => do
        let x ← dec X b
        pure (x == want)
      | .raw (.tuple _) => pure false
      | _ => bad "guard"
def noSelectS : Op → Bool
  | .select .. => false
  | _ => true
def evOper (P : Program) (X : Ctx) (call : FuncId → List SV → Nat → M Store SV) (id : Nat) (ops : Array Oper) (o : Oper) : M St Unit := do
  let w ← wants X ops o
  if w then do
    let vs ← rdAll o.op.operands.toList
    let v ← lift (do
      let v ← evOp P X call id o.op vs
      chk v.ids
      pure v)
    putS o.dst v
  else putS o.dst (.raw undef)

/-- what stands ahead of an operation, as a number's bits -/
def maskOf (ms : List Nat) : List Edge → Nat
  | [] => 0
  | e :: es => if Region.binds .any e then 2 ^ e.on ||| ms.getD e.on 0 ||| maskOf ms es else maskOf ms es
def masksGo : List Oper → List Nat → List Nat
  | [], ms => ms
  | o :: os, ms => masksGo os (ms ++ [maskOf ms o.after.toList])
def apartL (x y : List Loc × List Loc) : Bool :=
  x.2.all (fun l => !Loc.has y.1 l && !Loc.has y.2 l) && y.2.all (fun l => !Loc.has x.1 l)
def backOk : List Oper → Nat → Bool
  | [], _ => true
  | o :: os, i => o.after.toList.all (fun e => !Region.binds .any e || Nat.blt e.on i) && backOk os (i + 1)
def fixOk (ms : List Nat) : List Oper → Nat → Bool
  | [], _ => true
  | o :: os, i => Nat.beq (ms.getD i 0) (maskOf ms o.after.toList) && fixOk ms os (i + 1)
def freeOf (ms : List Nat) (i : Nat) (x : List Loc × List Loc) : List (Nat × (List Loc × List Loc)) → Bool
  | [] => true
  | (j, y) :: l => ((ms.getD j 0).testBit i || apartL x y) && freeOf ms i x l
def pairsOk (ms : List Nat) : List (Nat × (List Loc × List Loc)) → Bool
  | [] => true
  | (i, x) :: l => freeOf ms i x l && pairsOk ms l
def numbered : Nat → List (List Loc × List Loc) → List (Nat × (List Loc × List Loc))
  | _, [] => []
  | i, x :: l => (i, x) :: numbered (i + 1) l
def orderOk (ops : List Oper) (fps : List (List Loc × List Loc)) : Bool :=
  let ms := masksGo ops []
  backOk ops 0 && fixOk ms ops 0 && pairsOk ms (numbered 0 fps)

def stepId (u k : Nat) : Nat := u * 1048576 + (k + 1)
def evOps (P : Program) (X : Ctx) (call : FuncId → List SV → Nat → M Store SV) (u : Nat) (ops : Array Oper) : List Oper → Nat → M St (List (List Loc × List Loc))
  | [], _ => pure []
  | o :: os, k => do
    let f ← touched (evOper P X call (stepId u k) ops o)
    let fs ← evOps P X call u ops os (k + 1)
    pure (f :: fs)
def evRegion (P : Program) (X : Ctx) (call : FuncId → List SV → Nat → M Store SV) (ops : Array Oper) (draw : Bool) (u k : Nat) : M St Unit := do
  let fps ← evOps P X call u ops ops.toList k
  if draw then
    if orderOk ops.toList fps then pure () else bad "order"
  else pure ()

def child : Code → Nat → Code
  | .seq a _, 0 => a
  | .seq _ b, _ => b
  | .cond _ a _, 0 => a
  | .cond _ _ b, _ => b
  | .block _ b, _ => b
  | .loop b, _ => b
  | .scope b, _ => b
  | c, _ => c
/-- the code at a place in a function's body; the way is told from its end -/
def codeAt (P : Program) (f : FuncId) : List Nat → Code
  | [] => ((P.funcs[f]?).bind (·.body)).getD .skip
  | i :: p => child (codeAt P f p) i
def blkBeq (B C : Blk) : Bool := Nat.beq B.ty C.ty && SV.beqL B.cells C.cells
def setAll : Store → List (Nat × Blk) → Store
  | st, [] => st
  | st, (b, B) :: l => setAll (st.set b B) l
def sameIds : List (Nat × Blk) → List (Nat × Blk) → Bool
  | [], [] => true
  | (b, B) :: l, (c, C) :: m => Nat.beq b c && Nat.beq B.ty C.ty && sameIds l m
  | _, _ => false
def isAny : SV → Bool
  | .any => true
  | _ => false
/-- temporaries that are the same, but that nothing is said of some of the second -/
def tmBeq : List SV → List SV → Bool
  | [], [] => true
  | a :: xs, b :: ys => (isAny b || a.beq b) && tmBeq xs ys
  | _, _ => false
theorem tmBeq_spec : ∀ {xs ys : List SV}, tmBeq xs ys = true → xs.length = ys.length ∧ ∀ (t : Nat) v, ys[t]? = some v → v = .any ∨ xs[t]? = some v
  | [], [], _ => ⟨rfl, fun t v h => by simp at h⟩
  | [], _ :: _, h => by simp [tmBeq] at h
  | _ :: _, [], h => by simp [tmBeq] at h
  | a :: xs, b :: ys, h => by
    simp only [tmBeq, Bool.and_eq_true, Bool.or_eq_true] at h
    obtain ⟨h1, h2⟩ := tmBeq_spec h.2
    refine ⟨by simp [h1], fun t v hv => ?_⟩
    cases t with
    | zero =>
      simp only [List.getElem?_cons_zero, Option.some.injEq] at hv ⊢
      subst hv
      rcases h.1 with h3 | h3
      · left; cases b <;> simp_all [isAny]
      · right; exact SV.beq_eq h3
    | succ t => simpa using h2 t v (by simpa using hv)
def loopM (L : LoopSum) : M St Ex := fun s =>
  if tmBeq s.m.all L.tm && (L.bl.all fun p => match s.st.get p.1 with | some B => blkBeq B p.2 | none => false) && sameIds L.bl L.bl' && Nat.beq L.tm.length L.tm'.length
    && (L.tm'.all fun v => v.ids.all fun c => (s.st.get c).isSome) && (L.bl'.all fun p => (SV.idsL p.2.cells).all fun c => (s.st.get c).isSome) then
    .ok L.ex ⟨L.tm', setAll s.st L.bl'⟩
      ((List.range (s.m.n + 1)).map .tmp ++ L.bl.map (fun p => .blk p.1) ++ L.tm'.flatMap (fun v => v.ids.map .dom) ++ L.bl'.flatMap (fun p => (SV.idsL p.2.cells).map .dom))
      ((List.range s.m.n).map .tmp ++ L.bl.map (fun p => .blk p.1))
  else .err (.loop (L.tm ++ s.m.all) (s.st.map fun p => (p.1, p.2.ty, p.2.cells)))
def evResults (P : Program) : List ResultVar → M St (List SV)
  | [] => pure []
  | .tmp t :: l => do
    let v ← rdOp (.tmp t)
    let vs ← evResults P l
    pure (v :: vs)
  | .cell t ty :: l => do
    let p ← rdOp (.tmp t)
    match p with
    | .ptr b off => do
      let v ← lift (do
        let v ← loadS P ty b off
        chk v.ids
        pure v)
      let vs ← evResults P l
      pure (v :: vs)
    | _ => bad "result"
def oneOf : List SV → SV
  | [v] => v
  | vs => .tuple vs
mutual
def evCode (P : Program) (X : Ctx) : Nat → FuncId → List Nat → Code → Nat → Nat → M St (Ex × Nat)
  | 0, _, _, _, _, _ => bad "fuel"
  | n + 1, f, p, c, u, k =>
    match c with
    | .skip => pure (.normal, k)
    | .label _ => pure (.normal, k)
    | .region _ ops draw => do
      evRegion P X (evCall P X n) ops draw u k
      pure (.normal, k + ops.size)
    | .seq a b => do
      let r ← evCode P X n f (0 :: p) a u k
      match r with
      | (.normal, k1) => evCode P X n f (1 :: p) b u k1
      | r => pure r
    | .cond c x y => do
      let v ← rdOp c
      match v with
      | .bool b => do
        let t ← dec X b
        if t then evCode P X n f (0 :: p) x u k else evCode P X n f (1 :: p) y u k
      | _ => bad "cond"
    | .block id c => do
      let r ← evCode P X n f (0 :: p) c u k
      match r with
      | (.exit i, k1) => pure (if Nat.beq i id then (.normal, k1) else (.exit i, k1))
      | r => pure r
    | .loop c =>
      match X.lp f p (stepId u k) with
      | some L => do
        let e ← loopM L
        pure (e, k)
      | none => evLoop P X n f (0 :: p) c u k
    | .exit id => pure (.exit id, k)
    | .scope c => evCode P X n f (0 :: p) c u k
    | .ret => pure (.ret, k)
    | _ => bad "code"
def evLoop (P : Program) (X : Ctx) : Nat → FuncId → List Nat → Code → Nat → Nat → M St (Ex × Nat)
  | 0, _, _, _, _, _ => bad "fuel"
  | n + 1, f, p, c, u, k => do
    let r ← evCode P X n f p c u k
    match r with
    | (.normal, k1) => evLoop P X n f p c u k1
    | r => pure r
def evCall (P : Program) (X : Ctx) : Nat → FuncId → List SV → Nat → M Store SV
  | 0, _, _, _ => bad "fuel"
  | n + 1, f, args, id =>
    match P.funcs[f]? with
    | some fn =>
      match fn.body with
      | some c =>
        if fn.name == "runtime.NumGoroutine" then bad "call"
        else
          match knownC X f args with
          | some v => if v.ids.isEmpty then pure v else bad "result"
          | none => if X.stop.any (Nat.beq f) then M.fail (.call f args) else do
            chk (SV.idsL args)
            inFrame (args ++ List.replicate (fn.ntmps - args.length) (.raw undef)) (do
              let r ← evCode P X n f [] c id 0
              match r with
              | (.exit _, _) => bad "exit"
              | _ => do
                let vs ← evResults P fn.results.toList
                pure (oneOf vs))
      | none => M.fail (.call f args)
    | none => bad "no such function"
end

/-- the value that a call comes to, nothing being there -/
def runFn (P : Program) (X : Ctx) (n : Nat) (f : FuncId) (args : List SV) : Except Err SV :=
  match evCall P X n f args 1 [] with
  | .ok v _ _ _ => .ok v
  | .err e => .error e
end Ev
end Go.Proofs.Ytmgfnejiienghaa
