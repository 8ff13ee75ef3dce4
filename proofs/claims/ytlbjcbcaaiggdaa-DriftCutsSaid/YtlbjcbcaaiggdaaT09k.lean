/- Chapter 9: DriftCuts behind its loop: what is known. -/
import Derived.Test.YtlbjcbcaaiggdaaT09h
namespace Go.Proofs.Ytlbjcbcaaiggdaa
open Go Go.RowKit Ev
set_option linter.unusedVariables false
set_option linter.unusedSimpArgs false
set_option maxRecDepth 100000

abbrev rgM : List (Int × Int) := [(0, 50), (0, 100), i64R9, byR9, (0, 19)] ++ List.replicate 32 byR9 ++ [u32R9, i64R9, u32R9, i64R9]
def nxM (k : Nat) : IE := .ar .add .u32 (.var k) (.lit 1)
def nmM : List (IE × IE) := [(.ar .rem .i64 (.var 3) (.lit 20), .var 4), (catE .u32 [.var 6, .var 7, .var 8, .var 9], .var 37), (.wr .i64 (catE .u64 [.var 10, .var 11, .var 12, .var 13, .var 14, .var 15, .var 16, .var 17]), .var 38), (catE .u32 [.var 22, .var 23, .var 24, .var 25], .var 39), (.wr .i64 (catE .u64 [.var 26, .var 27, .var 28, .var 29, .var 30, .var 31, .var 32, .var 33]), .var 40), (seqE (.lit 1) (.var 2), .lit 1), (freqE (.lit 1) (.var 2), .var 2), (seqE (nxM 37) (.var 2), nxM 37), (freqE (nxM 37) (.var 2), .var 2), (seqE (nxM 39) (.var 2), nxM 39), (freqE (nxM 39) (.var 2), .var 2)]
def nbM : List (BE × Nat) := [(eqBs (pB (.var 37) (.var 38)) (bsE 5 0 16), 0), (eqBs (pB (.var 39) (.var 40)) (bsE 5 16 16), 1)]
def dcLp : FuncId → List Nat → Nat → Option LoopSum := fun f p _ => if Nat.beq f 6 && decide (p = loP) then some dcL else none
def cxM : Ctx := { pc := [], cr := shC, rg := rgM, ar := arT, ct := conCt rgM arT [packCon], lp := dcLp, xs := xs9A, nm := nmM, ss := ss9A, nb := nbM }
abbrev cuA : List SV := [.str 0, .xs 0, .int .i64 (.var 2), .int .u8 (.var 3)]
abbrev cuO : BE := ordE (.var 39) (.var 37)
abbrev cuU : BE := ordE (nxM 37) (.var 37)
abbrev cuN : BE := ordE (.var 39) (nxM 39)
/-- cut short; not cut short -/
def cuS : Tree := .node (.var 0) (.node (.var 1) (.node cuO (.leaf (.bool (.lit true))) (.leaf (.bool (.lit true)))) (.leaf (.bool (.lit true)))) (.node (.var 1) (.leaf (.bool (.lit true))) (.leaf (.bool (.lit true))))
abbrev cuF : Tree := .leaf (.bool (.cmp .eql (.var 2) (.var 2)))
def cuL : Tree := .node (.var 0) (.node (.var 1) (.node cuO (.node cuN .dead cuF) (.node cuU cuF .dead)) (.node cuU cuF .dead)) (.node (.var 1) (.node cuN .dead cuF) cuF)
def cuT (k : Nat) : Tree := if Nat.blt k 17 then cuS else cuL
end Go.Proofs.Ytlbjcbcaaiggdaa
