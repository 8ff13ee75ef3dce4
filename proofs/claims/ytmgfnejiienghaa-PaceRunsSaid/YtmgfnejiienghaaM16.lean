/- A checked evaluator: what it does at each operation, region, code and call. -/
import Derived.Test.YtmgfnejiienghaaM15
namespace Go.Proofs.Ytmgfnejiienghaa
open Go Go.RowKit
set_option linter.unusedVariables false
namespace Ev

def notPan : SV → Bool
  | .panv _ => false
  | _ => true
inductive Ex where
  | normal
  | exit (id : Nat)
  | ret
  /-- a panic -/
  | pan (v : SV)
def Ex.noPan : Ex → Bool
  | .pan _ => false
  | _ => true
/-- what a loop does: the frame's temporaries and some blocks ahead of it and behind it -/
structure LoopSum where
  tm : List SV
  bl : List (Nat × Blk)
  ex : Ex
  tm' : List SV
  bl' : List (Nat × Blk)
inductive EK where
  | int (k : IntKind)
  | bool
/-- a slice of the caller's: the variable that has its length; the functions that tell its things' cells, from the first one on; their kinds -/
structure XD where
  n : Nat
  f : Nat
  ks : List EK
/-- a number where an expression is wanted: that variable -/
instance (n : Nat) : OfNat IE n := ⟨.var n⟩
/-- a string of the law's: the variable that has its length; the function that tells what is there where it was copied to: (place, what was there ahead) -/
structure SD where
  n : Nat
  f : Nat
/-- what is known: conditions with their answers; calls with their results; which functions are not gone into -/
structure Ctx where
  pc : List (BE × Bool)
  cr : List (FuncId × List SV × SV) := []
  stop : List FuncId := []
  /-- between what the variables, and the answers of functions, lie -/
  rg : List (Int × Int) := []
  ar : List (Int × Int) := []
  /-- functions by their contracts -/
  ct : List (BE × Bool) → FuncId → List SV → Option SV := fun _ _ _ => none
  /-- loops by theirs: the function, the way down to the loop, from the last step, and the call's number -/
  lp : FuncId → List Nat → Nat → Option LoopSum := fun _ _ _ => none
  /-- the caller's slices -/
  xs : List XD := []
  /-- what is reckoned, by what stands for it -/
  nm : List (IE × IE) := []
  /-- the law's strings; are strings the same: by bools that stand for it -/
  ss : List SD := []
  nb : List (BE × Nat) := []
  /-- the greater, the less of two: the literal behind, and as the bounds decide -/
  nz : Bool := false
  /-- things of two cells and more are looked up by an index that nobody knows, without asking which -/
  sy : Bool := false

def ofCell : Value → SV
  | .int k n => .int k (.lit n)
  | .bool b => .bool (.lit b)
  | v => .raw v
def ofValue : Value → SV
  | .agg cs => .agg (cs.toList.map ofCell)
  | v => ofCell v
/-- the value of one cell -/
def SV.one : SV → Bool
  | .int .. | .bool .. | .flt .. | .str .. | .ptr .. | .slice .. | .func .. | .iface .. | .xs .. | .xp .. | .sl .. | .bts .. | .mp .. | .yld .. | .pv .. => true
  | .raw v => v.oneCell'
  | _ => false
def SV.parts : SV → Option (List SV)
  | .agg cs => if cs.all SV.one then some cs else none
  | v => if v.one then some [v] else none

def mkAr (op : BinOp) (k : IntKind) (a b : IE) : IE :=
  match a, b with
  | .lit x, .lit y => .lit (arI op k x y)
  | a, b => .ar op k a b
def mkWr (k : IntKind) (a : IE) : IE :=
  match a with
  | .lit x => .lit (k.wrap x)
  | a => .wr k a
def mkMn (a b : IE) : IE :=
  match a, b with
  | .lit x, .lit y => .lit (mnI x y)
  | a, b => .mn a b
def mkMx (a b : IE) : IE :=
  match a, b with
  | .lit x, .lit y => .lit (mxI x y)
  | a, b => .mx a b
def mkTab (l : List Nat) (e : IE) : IE :=
  match e with
  | .lit n => .lit (tabI l n)
  | e => .tab l e
def mkCmp (op : BinOp) (a b : IE) : BE :=
  match a, b with
  | .lit x, .lit y => .lit (cmpI op x y)
  | a, b => .cmp op a b
def mkNot (a : BE) : BE :=
  match a with
  | .lit x => .lit (!x)
  | a => .not a
def mkAnd (a b : BE) : BE :=
  match a with
  | .lit true => b
  | .lit false => .lit false
  | a => .and a b
def mkEqb (a b : BE) : BE :=
  match a, b with
  | .lit x, .lit y => .lit (x == y)
  | a, b => .eqb a b

abbrev Iv := Option (Int × Int)
/-- the lesser of two -/
def loI (a b : Int) : Int := if decide (a ≤ b) then a else b
def hiI (a b : Int) : Int := if decide (a ≤ b) then b else a
def within (k : IntKind) (a b : Int) : Bool := decide (k.min ≤ a) && decide (b ≤ k.max)
def kindIv (k : IntKind) : Iv := some (k.min, k.max)
def fitIv (k : IntKind) (a b : Int) : Iv := if within k a b then some (a, b) else kindIv k
/-- what one known condition says of an expression's bounds -/
def refine1 (e : IE) (c : BE) (t : Bool) (v : Int × Int) : Int × Int :=
  match c, t with
  | .cmp .lss x (.lit n), true => if x.beq e then (v.1, loI v.2 (n - 1)) else v
  | .cmp .lss x (.lit n), false => if x.beq e then (hiI v.1 n, v.2) else v
  | .cmp .lss (.lit n) x, true => if x.beq e then (hiI v.1 (n + 1), v.2) else v
  | .cmp .lss (.lit n) x, false => if x.beq e then (v.1, loI v.2 n) else v
  | .cmp .eql x (.lit n), true => if x.beq e then (n, n) else v
  | _, _ => v
def refine (e : IE) : List (BE × Bool) → Int × Int → Int × Int
  | [], v => v
  | (c, t) :: l, v => refine e l (refine1 e c t v)
def ivAr (op : BinOp) (k : IntKind) (x y : Iv) : Iv :=
  match op with
  | .add => match x, y with
    | some (a, b), some (c, d) => fitIv k (a + c) (b + d)
    | _, _ => kindIv k
  | .sub => match x, y with
    | some (a, b), some (c, d) => fitIv k (a - d) (b - c)
    | _, _ => kindIv k
  | .mul => match x, y with
    | some (a, b), some (c, d) => if decide (0 ≤ a) && decide (0 ≤ c) then fitIv k (a * c) (b * d) else kindIv k
    | _, _ => kindIv k
  | .rem => match x, y with
    | some (a, b), some (c, d) => if decide (0 ≤ a) && decide (1 ≤ c) then some (0, loI b (d - 1)) else if decide (1 ≤ c) then some (-(d - 1), d - 1) else none
    | _, _ => none
  | .shr => match x, y with
    | some (a, b), some (c, d) => if decide (0 ≤ a) && decide (0 ≤ c) && decide (c = d) && decide (c ≤ k.bits) then some (a / 2 ^ c.toNat, b / 2 ^ c.toNat) else some (loI a 0, hiI b 0)
    | some (a, b), none => some (loI a 0, hiI b 0)
    | none, _ => none
  | .shl => match x, y with
    | some (a, b), some (c, d) => if decide (0 ≤ c) && decide (c = d) && decide (c ≤ k.bits) then fitIv k (a * 2 ^ c.toNat) (b * 2 ^ c.toNat) else kindIv k
    | _, _ => kindIv k
  | .quo => match x, y with
    | some (a, b), some (c, d) => if decide (0 ≤ a) && decide (1 ≤ c) then fitIv k 0 b else kindIv k
    | _, _ => kindIv k
  | .and => match x, y with
    | some (a, b), some (c, d) => if decide (0 ≤ a) && decide (0 ≤ c) then fitIv k 0 (loI b d) else kindIv k
    | _, _ => kindIv k
  | _ => kindIv k
def ivOp (op : BinOp) (x y : Iv) : Iv :=
  match x, y with
  | some (a, b), some (c, d) =>
    match op with
    | .add => some (a + c, b + d)
    | .sub => some (a - d, b - c)
    | .mul => if decide (0 ≤ a) && decide (0 ≤ c) then some (a * c, b * d) else none
    | _ => none
  | _, _ => none
def ivl (X : Ctx) : IE → Iv
  | .lit n => some (n, n)
  | .var i => (X.rg[i]?).map (refine (.var i) X.pc)
  | .ar op k a b => (ivAr op k (ivl X a) (ivl X b)).map (refine (.ar op k a b) X.pc)
  | .wr k a => (match ivl X a with
    | some (x, y) => fitIv k x y
    | none => kindIv k).map (refine (.wr k a) X.pc)
  | .mn a b => (match ivl X a, ivl X b with
    | some (x, y), some (z, u) => some (loI x z, loI y u)
    | _, _ => none : Iv).map (refine (.mn a b) X.pc)
  | .mx a b => (match ivl X a, ivl X b with
    | some (x, y), some (z, u) => some (hiI x z, hiI y u)
    | _, _ => none : Iv).map (refine (.mx a b) X.pc)
  | .pl op a b => (ivOp op (ivl X a) (ivl X b)).map (refine (.pl op a b) X.pc)
  | .ap f a b c => (X.ar[f]?).map (refine (.ap f a b c) X.pc)
  | .tab l i => if l.all (fun n => Nat.ble n 255) then some (0, 255) else none
/-- the kind's own bounds hold of it -/
def fits (X : Ctx) (k : IntKind) (e : IE) : Bool :=
  match ivl X e with
  | some (a, b) => within k a b
  | none => false
/-- a comparison that the bounds decide -/
def byIv0 (X : Ctx) (op : BinOp) (a b : IE) : Option Bool :=
  match ivl X a, ivl X b with
  | some (x, y), some (z, u) =>
    match op with
    | .lss => if decide (y < z) then some true else if decide (u ≤ x) then some false else none
    | .eql => if decide (y < z) || decide (u < x) then some false else if decide (x = y) && decide (z = u) && decide (x = z) then some true else none
    | _ => none
  | _, _ => none
def byIv (X : Ctx) (op : BinOp) (a b : IE) : Option Bool :=
  match op with
  | .eql => if a.beq b then some true else byIv0 X .eql a b
  | .lss => if a.beq b then some false else byIv0 X .lss a b
  | op => byIv0 X op a b
/-- Go's arithmetic, without its bound where it is not come to -/
def mkArY (X : Ctx) (op : BinOp) (k : IntKind) (a b : IE) : IE :=
  match mkAr op k a b with
  | .lit n => .lit n
  | e =>
    match op with
    | .add | .sub | .mul =>
      match ivOp op (ivl X a) (ivl X b) with
      | some (x, y) => if within k x y then .pl op a b else e
      | none => e
    | _ => e
/-- a variable that is known to be a number -/
def pinV (v : Nat) : List (BE × Bool) → IE
  | [] => .var v
  | (.cmp .eql (.var u) (.lit n), true) :: l => if Nat.beq u v then .lit n else pinV v l
  | _ :: l => pinV v l
def pinE (pc : List (BE × Bool)) : IE → IE
  | .var v => pinV v pc
  | e => e
def nameI (pc : List (BE × Bool)) : List (IE × IE) → IE → IE
  | [], e => e
  | (d, v) :: l, e => if d.beq e then pinE pc v else nameI pc l e
def mkArX (X : Ctx) (op : BinOp) (k : IntKind) (a b : IE) : IE := nameI X.pc X.nm (mkArY X op k a b)
def nameB : List (BE × Nat) → BE → BE
  | [], e => e
  | (d, v) :: l, e => if d.beq e then .var v else nameB l e
def mkWrY (X : Ctx) (k : IntKind) (a : IE) : IE :=
  match mkWr k a with
  | .lit n => .lit n
  | e => if fits X k a then a else e
def mkWrX (X : Ctx) (k : IntKind) (a : IE) : IE := nameI X.pc X.nm (mkWrY X k a)
def litSecond (f : IE → IE → IE) (a b : IE) : IE :=
  match a with
  | .lit x => f b (.lit x)
  | a => f a b
def mkMnX (X : Ctx) (a b : IE) : IE :=
  if X.nz then
    match mkMn a b with
    | .lit n => .lit n
    | _ =>
      match byIv X .lss b a with
      | some true => b
      | some false => a
      | none => litSecond .mn a b
  else mkMn a b
def mkMxX (X : Ctx) (a b : IE) : IE :=
  if X.nz then
    match mkMx a b with
    | .lit n => .lit n
    | _ =>
      match byIv X .lss a b with
      | some true => b
      | some false => a
      | none => litSecond .mx a b
  else mkMx a b
def look : List (BE × Bool) → BE → Option Bool
  | [], _ => none
  | (c, t) :: r, b => if c.beq b then some t else look r b
def lookC : List (FuncId × List SV × SV) → FuncId → List SV → Option SV
  | [], _, _ => none
  | (f, a, v) :: r, g, b => if Nat.beq f g && SV.beqL a b then some v else lookC r g b
def knownC (X : Ctx) (f : FuncId) (args : List SV) : Option SV :=
  match lookC X.cr f args with
  | some v => some v
  | none => X.ct X.pc f args
def atom {S : Type} (X : Ctx) (b : BE) : M S Bool :=
  match look X.pc b with
  | some t => pure t
  | none => M.fail (.need b)
def atomC {S : Type} (X : Ctx) (op : BinOp) (a b : IE) : M S Bool :=
  match byIv X op a b with
  | some t => pure t
  | none => atom X (.cmp op a b)
def decCmp {S : Type} (X : Ctx) (op : BinOp) (a b : IE) : M S Bool :=
  match op with
  | .neq => do let t ← atomC X .eql a b; pure (!t)
  | .leq => do let t ← atomC X .lss b a; pure (!t)
  | .gtr => atomC X .lss b a
  | .geq => do let t ← atomC X .lss a b; pure (!t)
  | op => atomC X op a b
def dec {S : Type} (X : Ctx) : BE → M S Bool
  | .lit b => pure b
  | .var i => atom X (.var i)
  | .not a => do let t ← dec X a; pure (!t)
  | .and a b => do
    let t ← dec X a
    if t then dec X b else pure false
  | .eqb a b => do
    let s ← dec X a
    let t ← dec X b
    pure (s == t)
  | .cmp op a b => decCmp X op a b
def decI {S : Type} (X : Ctx) (op : BinOp) (a b : IE) : M S Bool := dec X (mkCmp op a b)
def bad {S α : Type} (why : String) : M S α := M.fail (.stuck why)

def sizeS (P : Program) (t : TypeId) : Option Nat := (P.info? t).map (·.size)
def aggD : TypeDesc → Bool
  | .struct _ | .array _ _ => true
  | _ => false
def aggS (P : Program) (t : TypeId) : Option Bool := (P.underlying t).map aggD
def fieldsS (P : Program) (t : TypeId) : Option (Array Field) :=
  match P.underlying t with
  | some (.struct fs) => some fs
  | _ => none
def placeS (P : Program) (fs : Array Field) (i : Nat) : Option (Nat × Nat) :=
  match fs[i]? with
  | some f => (sizeS P f.type).map fun n => (f.offset, n)
  | none => none
/-- fill the parts of a struct, an array or a slice -/
def fillS (place : Nat → Option (Nat × Nat)) (cells : List SV) : List (Nat × SV) → Option (List SV)
  | [] => some cells
  | (i, v) :: rest =>
    match place i, v.parts with
    | some (off, size), some cs =>
      if Nat.beq cs.length size && Nat.ble (off + cs.length) cells.length then fillS place (cells.take off ++ cs ++ cells.drop (off + cs.length)) rest
      else none
    | _, _ => none
def partS (P : Program) (t : TypeId) (cs : List SV) (off : Nat) : Option SV :=
  match aggS P t with
  | some true => (sizeS P t).map fun n => .agg ((cs.drop off).take n)
  | some false => cs[off]?
  | none => none
def zeroS (P : Program) (t : TypeId) : Option (List SV) := ((P.info? t).bind (·.zero)).bind fun z => (ofValue z).parts

/-- a row is written anew; a row is laid -/
def wrR (b : Nat) (B : Blk) (cs : List SV) : M Store Unit :=
  if headIs cs || !Nat.beq cs.length B.cells.length then bad "row" else wrB b { B with cells := cs }
def newR (id : Nat) (B : Blk) : M Store Unit := do
  chk (SV.idsL B.cells)
  if headIs B.cells then bad "row" else newB id B
/-- load and store -/
def loadS (P : Program) (t : TypeId) (b off : Nat) : M Store SV := do
  let B ← rdB b
  if headIs B.cells then bad "load" else
  match aggS P t with
  | some true =>
    match sizeS P t with
    | some n => if Nat.ble (off + n) B.cells.length then pure (.agg ((B.cells.drop off).take n)) else bad "load"
    | none => bad "load"
  | some false =>
    match B.cells[off]? with
    | some v => pure v
    | none => bad "load"
  | none => bad "load"
def storeS (P : Program) (t : TypeId) (b off : Nat) (v : SV) : M Store SV :=
  match v.parts, sizeS P t with
  | some cs, some n =>
    if cs.isEmpty && Nat.beq n 0 then pure (.raw undef) else do
    let B ← rdB b
    if !headIs B.cells && Nat.beq cs.length n && Nat.ble (off + n) B.cells.length && !B.cells.isEmpty then
      wrR b B (B.cells.take off ++ cs ++ B.cells.drop (off + n))
      pure (.raw undef)
    else bad "store"
  | _, _ => bad "store"

/-- which place of the first n it is: a literal, or asked one by one -/
def which {S : Type} (X : Ctx) (e : IE) : Nat → Nat → M S Nat
  | 0, _ => bad "index"
  | n + 1, j => do
    let t ← decI X .eql e (.lit j)
    if t then pure j else which X e n (j + 1)
def place {S : Type} (X : Ctx) (e : IE) (n : Nat) : M S Nat :=
  match e with
  | .lit (.ofNat j) => if Nat.blt j n then pure j else bad "index"
  | .lit _ => bad "index"
  | e => which X e n 0

def eqCells : List SV → List SV → Option BE
  | [], [] => some (.lit true)
  | .int k a :: as, .int l b :: bs => if k = l then (eqCells as bs).map (mkAnd (mkCmp .eql a b)) else none
  | .bool a :: as, .bool b :: bs => (eqCells as bs).map (mkAnd (mkEqb a b))
  | _, _ => none
/-- fields side by side, each an int or a bool -/
def plainFields (P : Program) (fs : List Field) (off : Nat) (cs : List SV) : Bool :=
  match fs, cs with
  | [], [] => true
  | f :: fs, c :: cs =>
    f.name != "_" && Nat.beq f.offset off &&
    (match P.underlying f.type, c with
     | some (.int _), .int .. => true
     | some .bool, .bool _ => true
     | _, _ => false) && plainFields P fs (off + 1) cs
  | _, _ => false
def binI (X : Ctx) (op : BinOp) (k l : IntKind) (a b : IE) : M Store SV :=
  match op with
  | .shl | .shr => do
    let t ← decI X .lss b (.lit 0)
    if t then bad "shift" else pure (.int k (mkArX X op k a b))
  | .quo | .rem =>
    if k = l then do
      let t ← decI X .eql b (.lit 0)
      if t then bad "by nought" else pure (.int k (mkArX X op k a b))
    else bad "kinds"
  | .add | .sub | .mul | .and | .or | .xor | .andNot => if k = l then pure (.int k (mkArX X op k a b)) else bad "kinds"
  | .eql | .neq | .lss | .leq | .gtr | .geq => if k = l then pure (.bool (mkCmp op a b)) else bad "kinds"
def eqlS (op : BinOp) (e : BE) : Option SV :=
  match op with
  | .eql => some (.bool e)
  | .neq => some (.bool (mkNot e))
  | _ => none
def boolS (op : BinOp) (d : Option TypeDesc) (a b : BE) : Option SV :=
  match d with
  | some .bool => eqlS op (mkEqb a b)
  | _ => none
/-- a string's bytes; are they bytes; are they the same -/
def strB : SV → Option (List IE)
  | .bts l => some l
  | .raw (.string s) => some (s.data.toList.map fun b => .lit b.toNat)
  | _ => none
def bytesFit (X : Ctx) (l : List IE) : Bool := l.all fun e => fits X .u8 e
def eqBs : List IE → List IE → BE
  | a :: as, b :: bs => mkAnd (mkCmp .eql a b) (eqBs as bs)
  | _, _ => .lit true
def strS (X : Ctx) (op : BinOp) (l m : List IE) : Option SV :=
  match op with
  | .add => if Nat.ble (l.length + m.length) 1000000 then some (.bts (l ++ m)) else none
  | op => if Nat.beq l.length m.length then (if bytesFit X l && bytesFit X m then eqlS op (nameB X.nb (eqBs l m)) else none) else eqlS op (.lit false)
/-- is it nil? -/
def nilEq (d : TypeDesc) (x y : SV) : Option Bool :=
  match d, x, y with
  | .interface _, .iface .., .raw .nilIface => some false
  | .interface _, .raw .nilIface, .iface .. => some false
  | .interface ⟨[]⟩, .raw .nilIface, .raw .nilIface => some true
  | .pointer _, .ptr .., .raw (.pointer none) => some false
  | .pointer _, .raw (.pointer none), .ptr .. => some false
  | .pointer _, .raw (.pointer none), .raw (.pointer none) => some true
  | .slice _, .slice .., .raw (.slice none _ _) => some false
  | .slice _, .sl .., .raw (.slice none _ _) => some false
  | .slice _, .raw (.slice none _ _), .raw (.slice none _ _) => some true
  | .func _ _ _, .func .., .raw .nilFunc => some false
  | .func _ _ _, .raw .nilFunc, .raw .nilFunc => some true
  | _, _, _ => none
def elseS (P : Program) (X : Ctx) (op : BinOp) (t : TypeId) (x y : SV) : Option SV :=
  match P.underlying t with
  | some .string =>
    match strB x, strB y with
    | some l, some m => strS X op l m
    | _, _ => none
  | some d =>
    match nilEq d x y with
    | some b => eqlS op (.lit b)
    | none => none
  | none => none
def andO : List (Option BE) → Option BE
  | [] => some (.lit true)
  | none :: _ => none
  | some e :: l => (andO l).map (mkAnd e)
def eqP (P : Program) (rec : TypeId → SV → SV → Option BE) (t : TypeId) (xs ys : List SV) (off : Nat) : Option BE :=
  match partS P t xs off, partS P t ys off with
  | some a, some b => rec t a b
  | _, _ => none
def eqF (P : Program) (rec : TypeId → SV → SV → Option BE) (xs ys : List SV) (f : Field) : Option BE :=
  if f.name = "_" then none else eqP P rec f.type xs ys f.offset
/-- what says that two values of a type are equal: ints, bools, structs and arrays of them -/
def eqD (P : Program) : Nat → TypeId → SV → SV → Option BE
  | 0, _, _, _ => none
  | d + 1, t, x, y =>
    match P.underlying t, x, y with
    | some .bool, .bool a, .bool b => some (mkEqb a b)
    | some (.int _), .int k a, .int l b => if k = l then some (mkCmp .eql a b) else none
    | some (.struct fs), .agg xs, .agg ys => if P.stoodInHeld t then none else andO (fs.toList.map (eqF P (eqD P d) xs ys))
    | some (.array n elem), .agg xs, .agg ys =>
      match sizeS P elem with
      | some sz => andO ((List.range' 0 n 1).map fun i => eqP P (eqD P d) elem xs ys (i * sz))
      | none => none
    | _, _, _ => none
def eqN (P : Program) (op : BinOp) (t : TypeId) (as bs : List SV) : M Store SV :=
  if P.eqGuardType P.depth t then bad "structs" else
  match eqD P 9 t (.agg as) (.agg bs) with
  | some e =>
    match eqlS op e with
    | some v => pure v
    | none => bad "structs"
  | none => bad "structs"
def binS (P : Program) (X : Ctx) (op : BinOp) (t : TypeId) (x y : SV) : M Store SV :=
  match x, y with
  | .int k a, .int l b => binI X op k l a b
  | .bool a, .bool b =>
    match boolS op (P.underlying t) a b with
    | some v => pure v
    | none => bad "bools"
  | .agg as, .agg bs =>
    match fieldsS P t, eqCells as bs with
    | some fs, some e =>
      if plainFields P fs.toList 0 as && plainFields P fs.toList 0 bs && !P.stoodInHeld t && !P.eqGuardType P.depth t then
        match eqlS op e with
        | some v => pure v
        | none => bad "structs"
      else eqN P op t as bs
    | _, _ => eqN P op t as bs
  | x, y =>
    match elseS P X op t x y with
    | some v => pure v
    | none => bad "operands"

def boundS (x : Option SV) (d : Nat) : Option Nat :=
  match x with
  | none => some d
  | some (.int _ (.lit (.ofNat n))) => some n
  | _ => none
/-- the operands of a slicing, as they are there -/
def sliceArgs (lo hi mx : Option Operand) (vs : List SV) : Option (SV × Option SV × Option SV) :=
  match lo, hi, mx, vs with
  | none, none, none, [x] => some (x, none, none)
  | some _, none, none, [x, l] => some (x, some l, none)
  | none, some _, none, [x, h] => some (x, none, some h)
  | some _, some _, none, [x, l, h] => some (x, some l, some h)
  | _, _, _, _ => none
def sliceS (P : Program) (t : TypeId) (x : SV) (lo hi : Option SV) : Option SV :=
  match P.underlying t, x with
  | some (.slice elem), .slice b off len cap =>
    match boundS lo 0, boundS hi len, sizeS P elem with
    | some l, some h, some n => if Nat.ble l h && Nat.ble h cap then some (.slice b (if Nat.beq cap l then off else off + l * n) (h - l) (cap - l)) else none
    | _, _, _ => none
  | some (.array m elem), .ptr b off =>
    match boundS lo 0, boundS hi m, sizeS P elem with
    | some l, some h, some n => if Nat.ble l h && Nat.ble h m then some (.slice b (if Nat.beq m l then off else off + l * n) (h - l) (m - l)) else none
    | _, _, _ => none
  | some (.slice elem), .sl b sz len d =>
    match boundS lo 0, boundS hi len, sizeS P elem with
    | some l, some h, some n => if Nat.beq n sz && Nat.ble l h && Nat.ble h len && (Nat.beq l 0 || Nat.blt l len) then some (.sl b sz (h - l) (d + l)) else none
    | _, _, _ => none
  | some .string, x =>
    match strB x with
    | some l =>
      match boundS lo 0, boundS hi l.length with
      | some i, some h => if Nat.ble i h && Nat.ble h l.length then some (.bts ((l.drop i).take (h - i))) else none
      | _, _ => none
    | none => none
  | _, _ => none
def methodS (P : Program) (t : TypeId) (name : String) : Option FuncId :=
  match P.info? t with
  | some i =>
    match i.methods.find? (·.name == name) with
    | some m =>
      match m.path.toList, m.func with
      | [], some (f, ptr) =>
        match P.underlying t with
        | some (.pointer _) => if ptr then some f else none
        | some _ => if ptr then none else some f
        | none => none
      | _, _ => none
    | none => none
  | none => none
/-- a cell of a caller's thing -/
def cellX (f : Nat) (e : IE) : EK → SV
  | .int k => .int k (.ap f e (.lit 0) (.lit 0))
  | .bool => .bool (.cmp .eql (.ap f e (.lit 0) (.lit 0)) (.lit 1))
def cellsX (f : Nat) (e : IE) : List EK → List SV
  | [] => []
  | k :: ks => cellX f e k :: cellsX (f + 1) e ks
/-- is it a thing of the slice? -/
def inX {S : Type} (X : Ctx) (d : XD) (e : IE) : M S Unit := do
  let neg ← decI X .lss e (.lit 0)
  let low ← decI X .lss e (.var d.n)
  if !neg && low then pure () else bad "index"
def loadX (P : Program) (X : Ctx) (t : TypeId) (j : Nat) (e : IE) (c : Nat) : M Store SV :=
  match X.xs[j]? with
  | some d => do
    inX X d e
    match aggS P t with
    | some true =>
      match sizeS P t with
      | some n => if Nat.ble (c + n) d.ks.length then pure (.agg (cellsX (d.f + c) e ((d.ks.drop c).take n))) else bad "load"
      | none => bad "load"
    | some false =>
      match d.ks[c]? with
      | some k => pure (cellX (d.f + c) e k)
      | none => bad "load"
    | none => bad "load"
  | none => bad "load"
/-- one of several whole numbers, by an index -/
def selSum (e : IE) : Nat → List IE → IE
  | _, [] => .lit 0
  | j, x :: l => .pl .add (.pl .mul (.tab (List.replicate j 0 ++ [1]) e) x) (selSum e (j + 1) l)
def colE (X : Ctx) (k : IntKind) (cells : List SV) (sz : Nat) : Nat → Nat → Option (List IE)
  | 0, _ => some []
  | n + 1, o =>
    match cells[o]? with
    | some (.int l x) => if k = l then (if fits X k x then (colE X k cells sz n (o + sz)).map (x :: ·) else none) else none
    | _ => none
def selCell (X : Ctx) (cells : List SV) (sz n o : Nat) (e : IE) : Option SV :=
  match cells[o]? with
  | some (.int k _) => (colE X k cells sz n o).map fun xs => .int k (nameI X.pc X.nm (.wr k (selSum e 0 xs)))
  | _ => none
def selCells (X : Ctx) (cells : List SV) (sz n : Nat) (e : IE) : Nat → Nat → Option (List SV)
  | 0, _ => some []
  | m + 1, o =>
    match selCell X cells sz n o e, selCells X cells sz n e m (o + 1) with
    | some v, some l => some (v :: l)
    | _, _ => none
/-- is it one of so many? -/
def inN {S : Type} (X : Ctx) (n : Nat) (e : IE) : M S Unit := do
  let neg ← decI X .lss e (.lit 0)
  let low ← decI X .lss e (.lit n)
  if !neg && low then pure () else bad "index"
def symI (X : Ctx) (n : Nat) (e : IE) : Bool :=
  X.sy && Nat.ble 2 n && (match e with | .lit _ => false | _ => true)
def addrS (X : Ctx) (len n b off : Nat) (e : IE) : M Store SV :=
  if symI X n e then do
    inN X len e
    pure (.pv b off n len e 0)
  else do
    let j ← place X e len
    pure (.ptr b (off + j * n))
def loadV (P : Program) (X : Ctx) (t : TypeId) (b off sz n : Nat) (e : IE) (c : Nat) : M Store SV := do
  inN X n e
  let B ← rdB b
  if headIs B.cells then bad "load" else
  match aggS P t with
  | some true =>
    match sizeS P t with
    | some m =>
      match selCells X B.cells sz n e m (off + c) with
      | some cs => pure (.agg cs)
      | none => bad "load"
    | none => bad "load"
  | some false =>
    match selCell X B.cells sz n (off + c) e with
    | some v => pure v
    | none => bad "load"
  | none => bad "load"
/-- the cells of so many things in a block, from a place on; the cells of a slice or a string -/
def rowS (b off m : Nat) : M Store (List SV) := do
  let B ← rdB b
  if !headIs B.cells && Nat.ble (off + m) B.cells.length then pure ((B.cells.drop off).take m) else bad "row"
def cellsElse (X : Ctx) (n : Nat) (x : SV) : M Store (Nat × List SV) :=
  match strB x with
  | some l => if Nat.beq n 1 && bytesFit X l then pure (l.length, l.map (.int .u8 ·)) else bad "cells"
  | none => bad "cells"
def cellsOfS (X : Ctx) (n : Nat) (x : SV) : M Store (Nat × List SV) :=
  match x with
  | .slice b off len _ => do
    let cs ← rowS b off (len * n)
    pure (len, cs)
  | .sl b sz len d => if Nat.beq sz n then do
      let cs ← rowS b (d * n) (len * n)
      pure (len, cs)
    else bad "cells"
  | .raw (.slice none 0 _) => pure (0, [])
  | x => cellsElse X n x
def notInt : TypeDesc → Bool
  | .string => true
  | .slice _ => true
  | _ => false
/-- small enough for any memory -/
def smallS (P : Program) (elem : TypeId) (need : Nat) : Bool :=
  match P.info? elem with
  | some i => Nat.ble (need * i.bytes) 1000000000 && Nat.ble need 1000000000
  | none => false
def growS (id : Nat) (elem : TypeId) (n len k : Nat) (old new : List SV) : M Store SV := do
  if Nat.beq old.length (len * n) && Nat.beq new.length (k * n) then do
    newR id ⟨elem, old ++ new⟩
    pure (.sl id n (len + k) 0)
  else bad "grow"
inductive AB where
  | nil
  | lit (b off len cap : Nat)
  | grow (b sz len : Nat)
  | no
def abOf : SV → AB
  | .raw (.slice none 0 0) => .nil
  | .slice b off len cap => .lit b off len cap
  | .sl b sz len 0 => .grow b sz len
  | _ => .no
def appendTo (P : Program) (id : Nat) (elem : TypeId) (n k : Nat) (new : List SV) : AB → M Store SV
  | .nil =>
    if Nat.beq k 0 then pure (.raw (.slice none 0 0))
    else if smallS P elem k then growS id elem n 0 k [] new else bad "append"
  | .lit b off len cap =>
    if Nat.ble (len + k) cap then do
      let B ← rdB b
      if !headIs B.cells && Nat.ble (off + (len + k) * n) B.cells.length && Nat.beq new.length (k * n) then
        if Nat.beq k 0 then pure (.slice b off len cap)
        else do
          chk (SV.idsL new)
          wrR b B (B.cells.take (off + len * n) ++ new ++ B.cells.drop (off + (len + k) * n))
          pure (.slice b off (len + k) cap)
      else bad "append"
    else if smallS P elem (len + k) then do
      let old ← rowS b off (len * n)
      growS id elem n len k old new
    else bad "append"
  | .grow b sz len =>
    if Nat.beq sz n && smallS P elem (len + k) then do
      let B ← rdB b
      if !headIs B.cells && Nat.ble (len * n) B.cells.length && Nat.beq B.ty elem then
        if Nat.beq k 0 then pure (.sl b sz len 0)
        else if Nat.ble 1 len then do
          wrB b { B with cells := [] }
          growS id elem n len k (B.cells.take (len * n)) new
        else bad "append"
      else bad "append"
    else bad "append"
  | .no => bad "append"
def appendS (P : Program) (X : Ctx) (id : Nat) (ts : Array TypeId) (s x : SV) : M Store SV :=
  match (ts[0]?).bind P.underlying, (ts[1]?).bind P.underlying with
  | some (.slice elem), some d1 =>
    match sizeS P elem, zeroS P elem with
    | some n, some z =>
      if notInt d1 && Nat.beq z.length n && Nat.ble 1 n then do
        let q ← cellsOfS X n x
        if q.2.all SV.one then appendTo P id elem n q.1 q.2 (abOf s) else bad "append"
      else bad "append"
    | _, _ => bad "append"
  | _, _ => bad "append"
/-- where a slice lies -/
def baseS : SV → Option (Nat × Nat × Nat)
  | .slice b off len _ => some (b, off, len)
  | .sl b sz len d => some (b, d * sz, len)
  | _ => none
def copyS (P : Program) (X : Ctx) (ts : Array TypeId) (s x : SV) : M Store SV :=
  match (ts[0]?).bind P.underlying with
  | some (.slice elem) =>
    match sizeS P elem, baseS s with
    | some n, some (b, off, len) => do
      let q ← cellsOfS X n x
      let m := Nat.min q.1 len
      let B ← rdB b
      if !headIs B.cells && Nat.ble (off + m * n) B.cells.length && q.2.all SV.one && !B.cells.isEmpty then do
        chk (SV.idsL (q.2.take (m * n)))
        wrR b B (B.cells.take off ++ q.2.take (m * n) ++ B.cells.drop (off + m * n))
        pure (.int .i64 (.lit m))
      else bad "copy"
    | _, _ => bad "copy"
  | _ => bad "copy"
/-- what is there behind a string of the law's was copied to it -/
def mixBs (f : Nat) : Nat → List IE → List SV
  | _, [] => []
  | i, e :: l => .int .u8 (.ap f (.lit i) e (.lit 0)) :: mixBs f (i + 1) l
def byteEs : List SV → Option (List IE)
  | [] => some []
  | .int .u8 e :: l => (byteEs l).map (e :: ·)
  | _ => none
def copyStrAt (X : Ctx) (d : SD) (b off len : Nat) : M Store SV := do
  let B ← rdB b
  match byteEs ((B.cells.drop off).take len) with
  | some l =>
    if !headIs B.cells && Nat.ble (off + len) B.cells.length && !B.cells.isEmpty && bytesFit X l then do
      wrR b B (B.cells.take off ++ mixBs d.f 0 l ++ B.cells.drop (off + len))
      pure (.int .i64 (.mn (.var d.n) (.lit len)))
    else bad "copy"
  | none => bad "copy"
def copyStr (P : Program) (X : Ctx) (ts : Array TypeId) (s : SV) (j : Nat) : M Store SV :=
  match (ts[0]?).bind P.underlying, X.ss[j]? with
  | some (.slice elem), some d =>
    match sizeS P elem, baseS s with
    | some 1, some (b, off, len) => copyStrAt X d b off len
    | _, _ => bad "copy"
  | _, _ => bad "copy"
def copyAny (P : Program) (X : Ctx) (ts : Array TypeId) (s : SV) : SV → M Store SV
  | .str j => copyStr P X ts s j
  | x => copyS P X ts s x
def builtinS (P : Program) (X : Ctx) (b : Builtin) (id : Nat) (ts : Array TypeId) (vs : List SV) : M Store SV :=
  match b, vs with
  | .append, [s, x] => appendS P X id ts s x
  | .copy, [s, x] => copyAny P X ts s x
  | .len, [.str j] =>
    match (ts[0]?).bind P.underlying, X.ss[j]? with
    | some .string, some d => pure (.int .i64 (.var d.n))
    | _, _ => bad "len"
  | .len, [.sl _ _ n _] =>
    match (ts[0]?).bind P.underlying with
    | some (.slice _) => pure (.int .i64 (.lit n))
    | _ => bad "len"
  | .len, [.bts l] =>
    match (ts[0]?).bind P.underlying with
    | some .string => pure (.int .i64 (.lit l.length))
    | _ => bad "len"
  | .len, [.raw (.string s)] =>
    match (ts[0]?).bind P.underlying with
    | some .string => pure (.int .i64 (.lit s.size))
    | _ => bad "len"
  | .len, [.slice _ _ n _] =>
    match (ts[0]?).bind P.underlying with
    | some (.slice _) => pure (.int .i64 (.lit n))
    | _ => bad "len"
  | .len, [.raw (.slice _ n _)] =>
    match (ts[0]?).bind P.underlying with
    | some (.slice _) => pure (.int .i64 (.lit n))
    | _ => bad "len"
  | .len, [.xs j] =>
    match (ts[0]?).bind P.underlying, X.xs[j]? with
    | some (.slice _), some d => pure (.int .i64 (.var d.n))
    | _, _ => bad "len"
  | .min, [.int k a, .int l b] => if k = l then pure (.int k (mkMnX X a b)) else bad "min"
  | .max, [.int k a, .int l b] => if k = l then pure (.int k (mkMxX X a b)) else bad "max"
  | .max, [.int k a, .int l b, .int m c] => if k = l then (if l = m then pure (.int k (mkMxX X (mkMxX X a b) c)) else bad "max") else bad "max"
  | _, _ => bad "builtin"

def litN : IE → Option Nat
  | .lit (.ofNat n) => some n
  | _ => none
/-- for the reader of a failure -/
def tagOf : Op → String
  | .nilCheck _ => "nilCheck"
  | .makeMap .. => "makeMap"
  | .insert .. => "insert"
  | .lookup .. => "lookup"
  | .load .. => "load"
  | .store .. => "store"
  | .slice .. => "slice"
  | .makeSlice .. => "makeSlice"
  | .convert .. => "convert"
  | .unOp .. => "unOp"
  | .index .. => "index"
  | .indexAddr .. => "indexAddr"
  | .fieldAddr .. => "fieldAddr"
  | .field .. => "field"
  | .pick .. => "pick"
  | .typeAssert .. => "typeAssert"
  | .panic _ => "panic"
  | .range .. => "range"
  | .next .. => "next"
  | .call ⟨.value _, _, _⟩ => "call"
  | .call ⟨.invoke _ _, _, _⟩ => "invoke"
  | .call _ => "builtin"
  | .defer _ => "defer"
  | _ => "operation"
def idxS (ps : Array (Nat × Operand)) : List Nat := ps.toList.map Prod.fst
/-- a slice whose end nobody knows is no longer than its block -/
def capS (x : SV) : M Store Unit :=
  match x with
  | .sl b sz len d => do
    let B ← rdB b
    if !headIs B.cells && Nat.ble ((d + len) * sz) B.cells.length && Nat.ble 1 sz then pure () else bad "slice"
  | _ => pure ()
/-- strings to bytes and back -/
def strRow (x : SV) : M Store SV :=
  match baseS x with
  | some (b, off, len) => do
    let cs ← rowS b off len
    match byteEs cs with
    | some l => pure (.bts l)
    | none => bad "convert"
  | none => bad "convert"
def strOf (x : SV) : M Store SV :=
  match x with
  | .raw (.slice none _ _) => pure (.bts [])
  | x => strRow x
def convS (P : Program) (X : Ctx) (id : Nat) (src dst : TypeId) (x : SV) : M Store SV :=
  match P.underlying src, P.underlying dst with
  | some .string, some .string =>
    match strB x with
    | some _ => pure x
    | none => bad "convert"
  | some .string, some (.slice e) =>
    match P.underlying e, strB x with
    | some (.int .u8), some l => if bytesFit X l && Nat.ble l.length 1000000 then do
        newR id ⟨e, l.map (.int .u8 ·)⟩
        pure (.sl id 1 l.length 0)
      else bad "convert"
    | _, _ => bad "convert"
  | some (.slice e), some .string =>
    match P.underlying e with
    | some (.int .u8) => strOf x
    | _ => bad "convert"
  | _, _ => bad "convert"
def makeSliceS (P : Program) (id : Nat) (t : TypeId) (l c : Nat) : M Store SV :=
  match P.underlying t with
  | some (.slice elem) =>
    match sizeS P elem, zeroS P elem with
    | some n, some z =>
      if Nat.beq z.length n && Nat.ble l c && smallS P elem c && Nat.ble (c * n) 16777216 then do
        newR id ⟨elem, (List.replicate c z).flatten⟩
        pure (.slice id 0 l c)
      else bad "makeSlice"
    | _, _ => bad "makeSlice"
  | _ => bad "makeSlice"
/-- maps -/
def keyEq (X : Ctx) (d : TypeDesc) (k e : SV) : Option BE :=
  match d with
  | .int _ =>
    match k, e with
    | .int j a, .int l b => if j = l then some (mkCmp .eql a b) else none
    | _, _ => none
  | .string =>
    match strB k, strB e with
    | some l, some m => if Nat.beq l.length m.length then (if bytesFit X l && bytesFit X m then some (eqBs l m) else none) else some (.lit false)
    | _, _ => none
  | _ => none
/-- the things ahead of the key, its value, and those behind -/
def findS {S : Type} (X : Ctx) (d : TypeDesc) (k : SV) : List SV → M S (Option (Nat × SV))
  | e :: v :: l =>
    match keyEq X d k e with
    | some c => do
      let t ← dec X c
      if t then pure (some (0, v))
      else do
        let r ← findS X d k l
        pure (r.map fun q => (q.1 + 1, q.2))
    | none => bad "key"
  | _ => pure none
def mapKey (P : Program) (t : TypeId) : Option (TypeDesc × TypeId) :=
  match P.underlying t with
  | some (.map k e) => (P.underlying k).map fun d => (d, e)
  | _ => none
def keyKind (d : TypeDesc) (k : SV) : Bool :=
  match d with
  | .int _ => match k with | .int .. => true | _ => false
  | .string => (strB k).isSome
  | _ => false
def mapCells : List SV → Option (List SV)
  | .mark 0 _ _ _ :: l => some l
  | _ => none
/-- all keys that are there can be compared with this one -/
def allKeys (X : Ctx) (d : TypeDesc) (k : SV) : List SV → Bool
  | e :: _ :: l => (keyEq X d k e).isSome && allKeys X d k l
  | _ => true
def litKey : SV → Option Int
  | .int _ (.lit n) => some n
  | _ => none
def ltKey (n : Int) (e : SV) : Bool :=
  match litKey e with
  | some m => decide (m < n)
  | none => false
/-- a key told by its number is laid ahead of the first one that is greater: so that what is laid in any order is the same -/
def insLit (n : Int) (k v : SV) : List SV → List SV
  | e :: w :: l => if ltKey n e then e :: w :: insLit n k v l else k :: v :: e :: w :: l
  | l => k :: v :: l
def neKey (n : Int) (e : SV) : Bool :=
  match litKey e with
  | some m => !decide (m = n)
  | none => false
def litFresh (n : Int) : List SV → Bool
  | e :: _ :: l => neKey n e && litFresh n l
  | _ => true
def freshLit (k : SV) (l : List SV) : Option Int :=
  match litKey k with
  | some n => if litFresh n l then some n else none
  | none => none
def lookupS (P : Program) (X : Ctx) (t : TypeId) (b : Nat) (k : SV) (ok : Bool) : M Store SV :=
  match mapKey P t with
  | some (d, e) =>
    match (P.info? e).bind (·.zero) with
    | some z =>
      if keyKind d k then do
        let B ← rdB b
        match mapCells B.cells with
        | some l =>
          if allKeys X d k l then do
            let r ← findS X d k l
            match r with
            | some q => pure (if ok then .tuple [q.2, .bool (.lit true)] else q.2)
            | none => pure (if ok then .tuple [ofValue z, .bool (.lit false)] else ofValue z)
          else bad "lookup"
        | none => bad "lookup"
      else bad "lookup"
    | none => bad "lookup"
  | none => bad "lookup"
def insFresh (b : Nat) (B : Blk) (n : Int) (k v : SV) (l : List SV) : M Store SV := do
  noteK n
  chk (SV.idsL [k, v])
  wrB b { B with cells := B.cells.take 1 ++ insLit n k v l }
  pure (.raw undef)
def insAny (X : Ctx) (d : TypeDesc) (b : Nat) (B : Blk) (k v : SV) (l : List SV) : M Store SV := do
  let r ← findS X d k l
  chk (SV.idsL [k, v])
  match r with
  | some q => do
    wrB b { B with cells := B.cells.take 1 ++ l.take (2 * q.1) ++ [k, v] ++ l.drop (2 * q.1 + 2) }
    pure (.raw undef)
  | none => do
    wrB b { B with cells := B.cells.take 1 ++ l ++ [k, v] }
    pure (.raw undef)
def insertS (P : Program) (X : Ctx) (t : TypeId) (b : Nat) (k v : SV) : M Store SV :=
  match mapKey P t with
  | some (d, _) =>
    if keyKind d k then do
      let B ← rdB b
      match mapCells B.cells with
      | some l =>
        if Nat.beq (l.length % 2) 0 && allKeys X d k l then
          match freshLit k l with
          | some n => insFresh b B n k v l
          | none => insAny X d b B k v l
        else bad "insert"
      | none => bad "insert"
    else bad "insert"
  | none => bad "insert"
def holdsS (ok : Bool) (v : SV) : SV := if ok then .tuple [v, .bool (.lit true)] else v
def assertS (z : Value) (at_ : TypeId) (ok : Bool) : SV → Option SV
  | .iface t v => if Nat.beq t at_ then some (holdsS ok v) else if ok then some (.tuple [ofValue z, .bool (.lit false)]) else none
  | .raw .nilIface => if ok then some (.tuple [ofValue z, .bool (.lit false)]) else none
  | _ => none
def typeAssertS (P : Program) (at_ : TypeId) (ok : Bool) (x : SV) : Option SV :=
  match P.underlying at_, (P.info? at_).bind (·.zero) with
  | some (.interface _), _ => none
  | some _, some z => assertS z at_ ok x
  | _, _ => none
def evOp (P : Program) (X : Ctx) (call : FuncId → List SV → Nat → M Store SV) (rnd : Nat → List SV → Nat → M Store SV) (id : Nat) (o : Op) (vs : List SV) : M Store SV :=
  match o, vs with
  | .move _, [v] => pure v
  | .assign _, [v] => pure v
  | .pick _ _ _, [.bool c, a, b] => do
    let t ← dec X c
    pure (if t then a else b)
  | .alloc elem, [] =>
    match zeroS P elem with
    | some cs => do
      newR id ⟨elem, cs⟩
      pure (.ptr id 0)
    | none => bad "alloc"
  | .box elem _, [v] =>
    match v.parts with
    | some cs => do
      newR id ⟨elem, cs⟩
      pure (.ptr id 0)
    | none => bad "box"
  | .build t ps, vs =>
    match P.underlying t, zeroS P t with
    | some (.struct fs), some z =>
      match fillS (placeS P fs) z ((idxS ps).zip vs) with
      | some cs => if fs.all (fun f => (sizeS P f.type).isSome) then pure (.agg cs) else bad "build"
      | none => bad "build"
    | some (.array _ elem), some z =>
      match sizeS P elem with
      | some n =>
        match fillS (fun i => some (i * n, n)) z ((idxS ps).zip vs) with
        | some cs => pure (.agg cs)
        | none => bad "build"
      | none => bad "build"
    | _, _ => bad "build"
  | .buildSlice t len ps, vs =>
    match P.underlying t with
    | some (.slice elem) =>
      match sizeS P elem, zeroS P elem with
      | some n, some z =>
        if Nat.beq z.length n && Nat.ble (len * n) 16777216 then
          match fillS (fun i => some (i * n, n)) (List.replicate len z).flatten ((idxS ps).zip vs) with
          | some cs => do
            newR id ⟨elem, cs⟩
            pure (.slice id 0 len len)
          | none => bad "buildSlice"
        else bad "buildSlice"
      | _, _ => bad "buildSlice"
    | _ => bad "buildSlice"
  | .load t _, [.ptr b off] => loadS P t b off
  | .load t _, [.xp j e c] => loadX P X t j e c
  | .load t _, [.pv b off sz n e c] => loadV P X t b off sz n e c
  | .store t _ _, [.ptr b off, v] =>
    match v.parts with
    | some cs => do
      chk (SV.idsL cs)
      storeS P t b off v
    | none => bad "store"
  | .nilCheck _, [.ptr b off] => pure (.ptr b off)
  | .nilCheck _, [.slice b off n c] => pure (.slice b off n c)
  | .nilCheck _, [.func (.func f) a c] => pure (.func (.func f) a c)
  | .nilCheck _, [.iface t v] => pure (.iface t v)
  | .binOp op t _ _ _, [x, y] => binS P X op t x y
  | .unOp .neg _ _, [.int k a] => pure (.int k (mkArX X .sub k (.lit 0) a))
  | .unOp .xor _ _, [.int k a] => pure (.int k (mkAr .xor k (.lit (if k.signed then -1 else k.max)) a))
  | .unOp .not _ _, [.bool a] => pure (.bool (mkNot a))
  | .convert src dst _, [.int k a] =>
    match P.underlying src, P.underlying dst with
    | some _, some (.int l) => pure (.int l (mkWrX X l a))
    | _, _ => bad "convert"
  | .convert src dst _, [v] => convS P X id src dst v
  | .makeSlice t _ _, [.int _ l, .int _ c] =>
    match litN l, litN c with
    | some l, some c => makeSliceS P id t l c
    | _, _ => bad "makeSlice"
  | .makeMap _ none, [] => do
    newB id ⟨0, [.mark 0 0 [] id]⟩
    pure (.mp id)
  | .makeMap t (some _), [.int _ _] =>
    match P.underlying t with
    | some (.map _ _) => do
      newB id ⟨0, [.mark 0 0 [] id]⟩
      pure (.mp id)
    | _ => bad "makeMap"
  | .insert t _ _ _, [.mp b, k, v] => insertS P X t b k v
  | .mapUpdate t _ _ _, [.mp b, k, v] => insertS P X t b k v
  | .lookup t _ _ ok, [.mp b, k] => lookupS P X t b k ok
  | .typeAssert _ _ at_ ok, [x] =>
    match typeAssertS P at_ ok x with
    | some v => pure v
    | none => bad "typeAssert"
  | .panic _, [.iface t v] => pure (.panv (.iface t v))
  | .makeFunc fn first captured, vs => if Nat.beq vs.length (first.size + captured.size) then pure (.func fn (vs.take first.size) (vs.drop first.size)) else bad "makeFunc"
  | .makeInterface t _, [v] =>
    match P.underlying t with
    | some (.interface _) => bad "makeInterface"
    | some _ => pure (.iface t v)
    | none => bad "makeInterface"
  | .fieldAddr s _ i, [.ptr b off] =>
    match fieldsS P s with
    | some fs =>
      match fs[i]? with
      | some f =>
        match sizeS P f.type with
        | some (_ + 1) => pure (.ptr b (off + f.offset))
        | _ => bad "fieldAddr"
      | none => bad "fieldAddr"
    | none => bad "fieldAddr"
  | .fieldAddr s _ i, [.pv b off sz n e c] =>
    match fieldsS P s with
    | some fs =>
      match fs[i]? with
      | some f =>
        match sizeS P f.type with
        | some (_ + 1) => pure (.pv b off sz n e (c + f.offset))
        | _ => bad "fieldAddr"
      | none => bad "fieldAddr"
    | none => bad "fieldAddr"
  | .fieldAddr s _ i, [.xp j e c] =>
    match X.xs[j]?, fieldsS P s with
    | some d, some fs =>
      match fs[i]? with
      | some f =>
        match sizeS P f.type with
        | some (_ + 1) => do
          inX X d e
          pure (.xp j e (c + f.offset))
        | _ => bad "fieldAddr"
      | none => bad "fieldAddr"
    | _, _ => bad "fieldAddr"
  | .indexAddr t _ _, [.ptr b off, .int _ e] =>
    match P.underlying t with
    | some (.array len elem) =>
      match sizeS P elem with
      | some n => addrS X len n b off e
      | none => bad "indexAddr"
    | _ => bad "indexAddr"
  | .indexAddr t _ _, [.slice b off len _, .int _ e] =>
    match P.underlying t with
    | some (.slice elem) =>
      match sizeS P elem with
      | some n => addrS X len n b off e
      | none => bad "indexAddr"
    | _ => bad "indexAddr"
  | .indexAddr t _ _, [.sl b sz len d, .int _ e] =>
    match P.underlying t with
    | some (.slice elem) =>
      match sizeS P elem with
      | some n =>
        if Nat.beq n sz then addrS X len n b (d * sz) e
        else bad "indexAddr"
      | none => bad "indexAddr"
    | _ => bad "indexAddr"
  | .indexAddr t _ _, [.xs j, .int _ e] =>
    match P.underlying t, X.xs[j]? with
    | some (.slice elem), some d =>
      match sizeS P elem with
      | some n =>
        if Nat.beq n d.ks.length then do
          inX X d e
          pure (.xp j e 0)
        else bad "indexAddr"
      | none => bad "indexAddr"
    | _, _ => bad "indexAddr"
  | .slice t _ lo hi mx, vs =>
    match sliceArgs lo hi mx vs with
    | some (x, l, h) => do
      capS x
      match sliceS P t x l h with
      | some v => pure v
      | none => bad "slice"
    | none => bad "slice"
  | .field t _ i, [.agg cs] =>
    match fieldsS P t with
    | some fs =>
      match fs[i]? with
      | some f => match partS P f.type cs f.offset with
        | some v => pure v
        | none => bad "field"
      | none => bad "field"
    | none => bad "field"
  | .index t _ _, [.agg cs, .int _ e] =>
    match P.underlying t with
    | some (.array len elem) =>
      match sizeS P elem with
      | some n => do
        let j ← place X e len
        match partS P elem cs (j * n) with
        | some v => pure v
        | none => bad "index"
      | none => bad "index"
    | _ => bad "index"
  | .index t _ _, [.raw (.string s), .int _ e] =>
    match P.underlying t with
    | some .string => do
      let neg ← decI X .lss e (.lit 0)
      let big ← decI X .lss e (.lit s.size)
      if !neg && big then pure (.int .u8 (mkTab (s.data.toList.map UInt8.toNat) e)) else bad "index"
    | _ => bad "index"
  | .index t _ _, [.bts l, .int _ e] =>
    match P.underlying t with
    | some .string => do
      let j ← place X e l.length
      match l[j]? with
      | some b => if fits X .u8 b then pure (.int .u8 b) else bad "index"
      | none => bad "index"
    | _ => bad "index"
  | .extract _ i, [.tuple vs] =>
    match vs[i]? with
    | some v => pure v
    | none => bad "extract"
  | .call ⟨.builtin b, _, ts⟩, vs => builtinS P X b id ts vs
  | .call ⟨.value _, _, _⟩, .func (.func f) fs cs :: vs => call f (fs ++ vs ++ cs) id
  | .call ⟨.value _, _, _⟩, .yld b :: vs => rnd b vs id
  | .call ⟨.invoke _ name, _, _⟩, .iface t v :: vs =>
    match methodS P t name with
    | some f => call f (v :: vs) id
    | none => bad "invoke"
  | o, _ => bad (tagOf o)

def rdOp (x : Operand) : M St SV :=
  match x with
  | .tmp t => do
    let v ← rdT t
    match v with
    | .any => M.fail (.call t [])
    | .panv _ => bad "panv"
    | v => pure v
  | .const v => pure (ofValue v)
  | .func f => pure (.func (.func f) [] [])
  | .global _ => bad "global"
def rdAll : List Operand → M St (List SV)
  | [] => pure []
  | x :: xs => do
    let v ← rdOp x
    let vs ← rdAll xs
    pure (v :: vs)
def putS (dst : Option Tmp) (v : SV) : M St Unit :=
  match dst with
  | some t => wrT t v
  | none => pure ()
def wants (X : Ctx) (ops : Array Oper) (o : Oper) : M St Bool :=
  match o.guard with
  | none => pure true
  | some (j, want) =>
    match (ops[j]?).bind (·.dst) with
    | none => pure false
    | some t => do
      let v ← rdT t
      match v with
      | .bool b => do
        let x ← dec X b
        pure (x == want)
      | .raw (.tuple _) => pure false
      | _ => bad "guard"
def noSelectS : Op → Bool
  | .select .. => false
  | _ => true
def mayPan : Op → Bool
  | .panic _ => true
  | .call ⟨.value _, _, _⟩ => true
  | .call ⟨.invoke _ _, _, _⟩ => true
  | _ => false
def evOper (P : Program) (X : Ctx) (call rnd : Nat → List SV → Nat → M Store SV) (id : Nat) (ops : Array Oper) (o : Oper) : M St (Option SV) := do
  let w ← wants X ops o
  if w then do
    let vs ← rdAll o.op.operands.toList
    let v ← lift (do
      let v ← evOp P X call rnd id o.op vs
      chk v.ids
      pure v)
    match v with
    | .panv u => if mayPan o.op then pure (some u) else bad "panv"
    | v => do
      putS o.dst v
      pure none
  else do
    putS o.dst (.raw undef)
    pure none
/-- where the order is drawn nothing panics -/
def evOperD (P : Program) (X : Ctx) (call rnd : Nat → List SV → Nat → M Store SV) (id : Nat) (ops : Array Oper) (o : Oper) : M St Unit := do
  let r ← evOper P X call rnd id ops o
  match r with
  | none => pure ()
  | some _ => bad "a panic in whatever order"
def isDefer : Op → Bool
  | .defer _ => true
  | _ => false
def evDefer (X : Ctx) (ops : Array Oper) (o : Oper) : M St Unit := do
  let w ← wants X ops o
  if w then
    match o.op with
    | .defer ⟨.value f, as, _⟩ => do
      let v ← rdOp f
      let vs ← rdAll as.toList
      match v with
      | .func (.func f) fs cs => do
        pushD (.call f (fs ++ vs) cs)
        putS o.dst (.raw undef)
      | _ => bad "defer"
    | _ => bad "defer"
  else putS o.dst (.raw undef)

/-- what stands ahead of an operation, as a number's bits -/
def maskOf (ms : List Nat) : List Edge → Nat
  | [] => 0
  | e :: es => if Region.binds .any e then 2 ^ e.on ||| ms.getD e.on 0 ||| maskOf ms es else maskOf ms es
def masksGo : List Oper → List Nat → List Nat
  | [], ms => ms
  | o :: os, ms => masksGo os (ms ++ [maskOf ms o.after.toList])
def apartL (x y : List Loc × List Loc) : Bool :=
  x.2.all (fun l => !Loc.has y.1 l && !Loc.has y.2 l) && y.2.all (fun l => !Loc.has x.1 l)
/-- the key that is told; a map's thing laid under a new key -/
def keyOf : List Loc → Option Int
  | [] => none
  | .key n :: _ => some n
  | _ :: l => keyOf l
def layOp (o : Oper) : Bool :=
  match o.op with
  | .insert .. => o.guard.isNone && o.dst.isNone
  | _ => false
/-- laid under other keys: in whatever order -/
def keysApart (ops : Array Oper) (i j : Nat) (x y : List Loc × List Loc) : Bool :=
  match ops[i]?, ops[j]?, keyOf x.1, keyOf y.1 with
  | some o, some q, some n, some m => layOp o && layOp q && !decide (n = m) && decide (x.2 = y.2)
  | _, _, _, _ => false
def backOk : List Oper → Nat → Bool
  | [], _ => true
  | o :: os, i => o.after.toList.all (fun e => !Region.binds .any e || Nat.blt e.on i) && backOk os (i + 1)
def fixOk (ms : List Nat) : List Oper → Nat → Bool
  | [], _ => true
  | o :: os, i => Nat.beq (ms.getD i 0) (maskOf ms o.after.toList) && fixOk ms os (i + 1)
def apartO (ops : Array Oper) (i j : Nat) (x y : List Loc × List Loc) : Bool := apartL x y || keysApart ops i j x y
def freeOf (ops : Array Oper) (ms : List Nat) (i : Nat) (x : List Loc × List Loc) : List (Nat × (List Loc × List Loc)) → Bool
  | [] => true
  | (j, y) :: l => ((ms.getD j 0).testBit i || apartO ops i j x y) && freeOf ops ms i x l
def pairsOk (ops : Array Oper) (ms : List Nat) : List (Nat × (List Loc × List Loc)) → Bool
  | [] => true
  | (i, x) :: l => freeOf ops ms i x l && pairsOk ops ms l
def numbered : Nat → List (List Loc × List Loc) → List (Nat × (List Loc × List Loc))
  | _, [] => []
  | i, x :: l => (i, x) :: numbered (i + 1) l
def orderOk (ops : Array Oper) (fps : List (List Loc × List Loc)) : Bool :=
  let ms := masksGo ops.toList []
  backOk ops.toList 0 && fixOk ms ops.toList 0 && pairsOk ops ms (numbered 0 fps)

def stepId (u k : Nat) : Nat := u * 1048576 + (k + 1)
def evOps (P : Program) (X : Ctx) (call rnd : Nat → List SV → Nat → M Store SV) (u : Nat) (ops : Array Oper) : List Oper → Nat → M St (List (List Loc × List Loc))
  | [], _ => pure []
  | o :: os, k => do
    let f ← touched (evOperD P X call rnd (stepId u k) ops o)
    let fs ← evOps P X call rnd u ops os (k + 1)
    pure (f :: fs)
/-- one behind the other, up to a panic -/
def evSeq (P : Program) (X : Ctx) (call rnd : Nat → List SV → Nat → M Store SV) (rd : Option Nat) (u : Nat) (ops : Array Oper) : List Oper → Nat → M St (Option SV)
  | [], _ => pure none
  | o :: os, k =>
    if isDefer o.op then
      if rd.isNone then do
        evDefer X ops o
        evSeq P X call rnd rd u ops os (k + 1)
      else bad "defer in a round"
    else do
      let r ← evOper P X call rnd (stepId u k) ops o
      match r with
      | none => evSeq P X call rnd rd u ops os (k + 1)
      | some v => pure (some v)
def exOf : Option SV → Ex
  | none => .normal
  | some v => .pan v
def evRegion (P : Program) (X : Ctx) (call rnd : Nat → List SV → Nat → M Store SV) (rd : Option Nat) (ops : Array Oper) (draw : Bool) (u k : Nat) : M St Ex :=
  if draw then do
    let fps ← evOps P X call rnd u ops ops.toList k
    if orderOk ops fps then pure .normal else bad "order"
  else do
    let r ← evSeq P X call rnd rd u ops ops.toList k
    pure (exOf r)

def child : Code → Nat → Code
  | .seq a _, 0 => a
  | .seq _ b, _ => b
  | .cond _ a _, 0 => a
  | .cond _ _ b, _ => b
  | .block _ b, _ => b
  | .loop b, _ => b
  | .scope b, _ => b
  | .rangeFunc _ _ a _, 0 => a
  | .rangeFunc _ _ _ b, _ => b
  | c, _ => c
/-- the code at a place in a function's body; the way is told from its end -/
def codeAt (P : Program) (f : FuncId) : List Nat → Code
  | [] => ((P.funcs[f]?).bind (·.body)).getD .skip
  | i :: p => child (codeAt P f p) i
def blkBeq (B C : Blk) : Bool := Nat.beq B.ty C.ty && SV.beqL B.cells C.cells
def setAll : Store → List (Nat × Blk) → Store
  | st, [] => st
  | st, (b, B) :: l => setAll (st.set b B) l
def sameIds : List (Nat × Blk) → List (Nat × Blk) → Bool
  | [], [] => true
  | (b, B) :: l, (c, C) :: m => Nat.beq b c && Nat.beq B.ty C.ty && sameIds l m
  | _, _ => false
def isAny : SV → Bool
  | .any => true
  | _ => false
/-- temporaries that are the same, but that nothing is said of some of the second -/
def tmBeq : List SV → List SV → Bool
  | [], [] => true
  | a :: xs, b :: ys => (isAny b || a.beq b) && tmBeq xs ys
  | _, _ => false
theorem tmBeq_spec : ∀ {xs ys : List SV}, tmBeq xs ys = true → xs.length = ys.length ∧ ∀ (t : Nat) v, ys[t]? = some v → v = .any ∨ xs[t]? = some v
  | [], [], _ => ⟨rfl, fun t v h => by simp at h⟩
  | [], _ :: _, h => by simp [tmBeq] at h
  | _ :: _, [], h => by simp [tmBeq] at h
  | a :: xs, b :: ys, h => by
    simp only [tmBeq, Bool.and_eq_true, Bool.or_eq_true] at h
    obtain ⟨h1, h2⟩ := tmBeq_spec h.2
    refine ⟨by simp [h1], fun t v hv => ?_⟩
    cases t with
    | zero =>
      simp only [List.getElem?_cons_zero, Option.some.injEq] at hv ⊢
      subst hv
      rcases h.1 with h3 | h3
      · left; cases b <;> simp_all [isAny]
      · right; exact SV.beq_eq h3
    | succ t => simpa using h2 t v (by simpa using hv)
def loopM (L : LoopSum) : M St Ex := fun s =>
  if L.ex.noPan && tmBeq s.m.all L.tm && (L.bl.all fun p => match s.st.get p.1 with | some B => blkBeq B p.2 | none => false) && sameIds L.bl L.bl' && Nat.beq L.tm.length L.tm'.length
    && (L.tm'.all fun v => v.ids.all fun c => (s.st.get c).isSome) && (L.bl'.all fun p => (SV.idsL p.2.cells).all fun c => (s.st.get c).isSome) then
    .ok L.ex ⟨Tm.ofL L.tm' s.m.df, setAll s.st L.bl'⟩
      ((List.range (s.m.n + 1)).map .tmp ++ L.bl.map (fun p => .blk p.1) ++ L.tm'.flatMap (fun v => v.ids.map .dom) ++ L.bl'.flatMap (fun p => (SV.idsL p.2.cells).map .dom))
      ((List.range s.m.n).map .tmp ++ L.bl.map (fun p => .blk p.1))
  else .err (.loop (L.tm ++ s.m.all) (s.st.map fun p => (p.1, p.2.ty, p.2.cells)))
def evResults (P : Program) : List ResultVar → M St (List SV)
  | [] => pure []
  | .tmp t :: l => do
    let v ← rdOp (.tmp t)
    let vs ← evResults P l
    pure (v :: vs)
  | .cell t ty :: l => do
    let p ← rdOp (.tmp t)
    match p with
    | .ptr b off => do
      let v ← lift (do
        let v ← loadS P ty b off
        chk v.ids
        pure v)
      let vs ← evResults P l
      pure (v :: vs)
    | _ => bad "result"
def oneOf : List SV → SV
  | [v] => v
  | vs => .tuple vs
/-- a range over a function: its record, its rounds' ends, its own end -/
structure RecP where
  m : Nat
  f : FuncId
  p : List Nat
  d : Nat
  k : Nat
  i : Nat
  q : List Nat
  e : Nat
  tm : List SV
def recP : List SV → Option RecP
  | .mark m f p d :: .mark k i q e :: tm => some ⟨m, f, p, d, k, i, q, e, tm⟩
  | _ => none
def RecP.cells (R : RecP) (m k i : Nat) (q : List Nat) : List SV := .mark m R.f R.p R.d :: .mark k i q R.e :: R.tm
theorem recP_eq {cs : List SV} {R : RecP} (h : recP cs = some R) : cs = R.cells R.m R.k R.i R.q := by
  unfold recP at h
  split at h
  · cases h; rfl
  · cases h
def isRec (m : Nat) : Bool := Nat.ble 1 m && Nat.ble m 4
/-- where the deferred calls of the rounds go -/
def dfrOf (rd : Option Nat) (id : Nat) : M Store Nat :=
  match rd with
  | none => do
    newB id ⟨0, [.mark 5 0 [] id]⟩
    pure id
  | some b => do
    let B ← rdB b
    match recP B.cells with
    | some R => if isRec R.m then pure R.d else bad "round"
    | none => bad "round"
def enterL (u k : Nat) (rd : Option Nat) (f : FuncId) (p : List Nat) : M St Nat := do
  let tm ← rdTs
  let d ← lift (do
    let d ← dfrOf rd (stepId u k)
    chk (SV.idsL (.mark 1 f p d :: .mark 10 0 [] d :: tm))
    newB (stepId u (k + 1)) ⟨0, .mark 1 f p d :: .mark 10 0 [] d :: tm⟩
    pure d)
  match rd with
  | none => do
    pushD (.coll d)
    pure (stepId u (k + 1))
  | some _ => pure (stepId u (k + 1))
/-- a round begins -/
def beginL (b : Nat) : M Store Unit := do
  let B ← rdB b
  match recP B.cells with
  | some R => if Nat.beq R.m 1 then wrB b { B with cells := R.cells 2 R.k R.i R.q } else bad "record"
  | none => bad "record"
/-- the record's state and pending jump are set -/
def setL (b m : Nat) (pk pi : Nat) : M Store Unit := do
  let B ← rdB b
  match recP B.cells with
  | some R => if Nat.beq R.m 2 then wrB b { B with cells := R.cells m pk pi [] } else bad "record"
  | none => bad "record"
def jumpS (k i : Nat) : Option Ex :=
  match k with
  | 10 => some .normal
  | 11 => some (.exit i)
  | 12 => some .ret
  | _ => none
def leaveL (b : Nat) : M Store Ex := do
  let B ← rdB b
  match recP B.cells with
  | some R =>
    if Nat.beq R.m 1 || Nat.beq R.m 3 then
      match jumpS R.k R.i with
      | some e => do
        wrB b { B with cells := R.cells 4 R.k R.i R.q }
        pure e
      | none => bad "record"
    else bad "record"
  | none => bad "record"
def setTs : List SV → List (Nat × SV) → List SV
  | tm, [] => tm
  | tm, (t, v) :: l => setTs (tm.set t v) l
def paramsAt (P : Program) (f : FuncId) (p : List Nat) : Option (Array Tmp) :=
  match codeAt P f p with
  | .rangeFunc _ ps _ _ => some ps
  | _ => none
/-- what a round begins with: the function, the way to the statement, the temporaries -/
def roundL (P : Program) (b : Nat) (vs : List SV) : M Store (FuncId × List Nat × List SV) := do
  let B ← rdB b
  match recP B.cells with
  | some R =>
    if Nat.beq R.m 1 && Nat.beq R.k 10 then
      match paramsAt P R.f R.p with
      | some ps => if Nat.beq ps.size vs.length then pure (R.f, R.p, setTs R.tm (ps.toList.zip vs)) else bad "round"
      | none => bad "round"
    else bad "round"
  | none => bad "round"
def endL (b : Nat) : Ex → M Store SV
  | .normal => do
    setL b 1 10 0
    pure (.bool (.lit true))
  | .exit i => do
    setL b 3 11 i
    pure (.bool (.lit false))
  | .ret => do
    setL b 3 12 0
    pure (.bool (.lit false))
  | .pan _ => bad "a panic in a round"
def lpOf (X : Ctx) (rd : Option Nat) (f : FuncId) (p : List Nat) (u : Nat) : Option LoopSum :=
  match rd with
  | none => X.lp f p u
  | some _ => none
def rdDs : M St (List DS) := fun s => .ok s.m.df s [.dfr] []
def dfrP : List SV → Bool
  | [.mark 5 _ _ _] => true
  | _ => false
def shutD (b : Nat) : M Store Unit := do
  let B ← rdB b
  if dfrP B.cells then wrB b { B with cells := [.mark 6 0 [] b] } else bad "deferred"
/-- the deferred calls, the last one first: what is panicking behind them -/
def evLeave (dcall : FuncId → List SV → Option SV → Nat → M Store (Option SV)) (u : Nat) : List DS → Option SV → Nat → M St (Option SV)
  | [], x, _ => pure x
  | .coll b :: ds, x, k => do
    lift (shutD b)
    evLeave dcall u ds x k
  | .call f vs cs :: ds, x, k => do
    let y ← lift (dcall f (vs ++ cs) x (stepId u k))
    evLeave dcall u ds y (k + 1)
/-- a body that recovers first: where to, and the rest -/
def recOp (o : Oper) : Option Tmp :=
  match o.op with
  | .call ⟨.builtin .recover, as, _⟩ => if as.isEmpty && o.guard.isNone then o.dst else none
  | _ => none
def recBody : Code → Option (Tmp × Code)
  | .seq (.region _ ⟨[o]⟩ false) c =>
    match recOp o with
    | some t => some (t, c)
    | none => none
  | _ => none
def exIs : Ex → Bool
  | .normal => true
  | .ret => true
  | _ => false
def panOf : Ex → Option SV
  | .pan v => some v
  | _ => none
mutual
def evCode (P : Program) (X : Ctx) : Nat → FuncId → List Nat → Code → Option Nat → Nat → Nat → M St (Ex × Nat)
  | 0, _, _, _, _, _, _ => bad "fuel"
  | n + 1, f, p, c, rd, u, k =>
    match c with
    | .skip => pure (.normal, k)
    | .label _ => pure (.normal, k)
    | .region _ ops draw => do
      let e ← evRegion P X (evCall P X n) (evRound P X n) rd ops draw u k
      pure (e, k + ops.size)
    | .seq a b => do
      let r ← evCode P X n f (0 :: p) a rd u k
      match r with
      | (.normal, k1) => evCode P X n f (1 :: p) b rd u k1
      | r => pure r
    | .cond c x y => do
      let v ← rdOp c
      match v with
      | .bool b => do
        let t ← dec X b
        if t then evCode P X n f (0 :: p) x rd u k else evCode P X n f (1 :: p) y rd u k
      | _ => bad "cond"
    | .block id c => do
      let r ← evCode P X n f (0 :: p) c rd u k
      match r with
      | (.exit i, k1) => pure (if Nat.beq i id then (.normal, k1) else (.exit i, k1))
      | r => pure r
    | .loop c =>
      match lpOf X rd f p (stepId u k) with
      | some L => do
        let e ← loopM L
        pure (e, k)
      | none => evLoop P X n f (0 :: p) c rd u k
    | .rangeFunc g _ _ _ => do
      let v ← rdOp g
      match v with
      | .func (.func gf) fs cs => do
        let b ← enterL u k rd f p
        let r ← lift (do
          let r ← evCall P X n gf (fs ++ [.yld b] ++ cs) (stepId u (k + 2))
          match r with
          | .panv _ => bad "a panic in a range"
          | _ => leaveL b)
        pure (r, k + 3)
      | _ => bad "range"
    | .exit id => pure (.exit id, k)
    | .scope c => evCode P X n f (0 :: p) c rd u k
    | .ret => pure (.ret, k)
    | _ => bad "code"
def evLoop (P : Program) (X : Ctx) : Nat → FuncId → List Nat → Code → Option Nat → Nat → Nat → M St (Ex × Nat)
  | 0, _, _, _, _, _, _ => bad "fuel"
  | n + 1, f, p, c, rd, u, k => do
    let r ← evCode P X n f p c rd u k
    match r with
    | (.normal, k1) => evLoop P X n f p c rd u k1
    | r => pure r
def evRound (P : Program) (X : Ctx) : Nat → Nat → List SV → Nat → M Store SV
  | 0, _, _, _ => bad "fuel"
  | n + 1, b, vs, id => do
    let q ← roundL P b vs
    chk (SV.idsL q.2.2)
    inFrame q.2.2 (do
      let r ← evCode P X n q.1 (0 :: q.2.1) (codeAt P q.1 (0 :: q.2.1)) (some b) id 0
      match r with
      | (.normal, k1) => do
        lift (beginL b)
        let e ← evCode P X n q.1 (1 :: q.2.1) (codeAt P q.1 (1 :: q.2.1)) (some b) id k1
        lift (endL b e.1)
      | _ => bad "round")
def evCall (P : Program) (X : Ctx) : Nat → FuncId → List SV → Nat → M Store SV
  | 0, _, _, _ => bad "fuel"
  | n + 1, f, args, id =>
    match P.funcs[f]? with
    | some fn =>
      match fn.body with
      | some c =>
        if fn.name == "runtime.NumGoroutine" then bad "call"
        else
          match knownC X f args with
          | some v => if v.ids.isEmpty && notPan v then pure v else bad "result"
          | none => if X.stop.any (Nat.beq f) then M.fail (.call f args) else do
            chk (SV.idsL args)
            inFrame (args ++ List.replicate (fn.ntmps - args.length) (.raw undef)) (do
              let r ← evCode P X n f [] c none id 0
              match r with
              | (.exit _, _) => bad "exit"
              | (e, k) => do
                let ds ← rdDs
                let x ← evLeave (evDef P X n) id ds (panOf e) k
                match x with
                | some v => pure (.panv v)
                | none => do
                  let vs ← evResults P fn.results.toList
                  match oneOf vs with
                  | .panv _ => bad "result"
                  | v => pure v)
      | none => M.fail (.call f args)
    | none => bad "no such function"
/-- a deferred call: what is panicking behind it -/
def evDef (P : Program) (X : Ctx) : Nat → FuncId → List SV → Option SV → Nat → M Store (Option SV)
  | 0, _, _, _, _ => bad "fuel"
  | n + 1, f, vs, x, id =>
    match P.funcs[f]? with
    | some fn =>
      match fn.body with
      | some c =>
        if fn.name == "runtime.NumGoroutine" then bad "call"
        else
          match recBody c with
          | some (t, c1) => do
            chk (SV.idsL vs)
            inFrame (vs ++ List.replicate (fn.ntmps - vs.length) (.raw undef)) (do
              putS (some t) (x.getD (.raw .nilIface))
              let r ← evCode P X n f [1] c1 none id 1
              if exIs r.1 then do
                let ds ← rdDs
                if ds.isEmpty then do
                  let _ ← evResults P fn.results.toList
                  pure none
                else bad "deferred by what is deferred"
              else bad "deferred")
          | none => bad "deferred call"
      | none => bad "deferred call"
    | none => bad "deferred call"
end

/-- the value that a call comes to, nothing being there -/
def runFn (P : Program) (X : Ctx) (n : Nat) (f : FuncId) (args : List SV) : Except Err SV :=
  match evCall P X n f args 1 [] with
  | .ok v _ _ _ => if notPan v then .ok v else .error (.stuck "a panic")
  | .err e => .error e
end Ev
end Go.Proofs.Ytmgfnejiienghaa
