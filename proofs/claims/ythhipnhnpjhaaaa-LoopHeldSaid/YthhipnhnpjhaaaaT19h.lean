/- Law 19: LoopHeld. -/
import Derived.Test.YthhipnhnpjhaaaaT19s
namespace Go.Proofs.Ythhipnhnpjhaaaa
open Go Go.RowKit Ev
set_option linter.unusedVariables false
set_option linter.unusedSimpArgs false
set_option maxRecDepth 100000

def lhAL : LoopSum := ⟨[(.xs 0), (.int .i64 (.var 1)), (.bool (.lit true)), (.int .u8 (.var 2)), U0, U0, U0, U0, (.bool (.lit false)), (.ptr 1048586 0), (.ptr 1048592 0), (.int .i64 (.lit 0)), (.int .i64 (.lit 0)), U0, U0, U0, U0, U0, (.xs 0), (.int .i64 (.var 0)), (.bool (.cmp .gtr (.var 0) (.lit 300))), (.bool (.cmp .gtr (.var 0) (.lit 300))), (.bool (.lit true)), (.bool (.lit false)), (.bool (.lit false)), U0, (.agg [(.int .i64 (.lit 536870912)), (.int .i64 (.lit 1288490188800)), (.int .i64 (.lit 4294967296000)), (.int .i64 (.lit 2147483)), (.int .i64 (.lit 64424)), (.int .i64 (.lit 6442450944)), (.int .i64 (.lit 17179869184)), (.int .i64 (.lit 6)), (.int .i64 (.lit 10)), (.int .i64 (.lit 0)), (.int .i64 (.lit 1)), (.int .i64 (.lit 3))]), (.agg [(.int .i64 (.lit 536870912)), (.int .i64 (.lit 1288490188800)), (.int .i64 (.lit 4294967296000)), (.int .i64 (.lit 2147483)), (.int .i64 (.lit 64424)), (.int .i64 (.lit 6442450944)), (.int .i64 (.lit 17179869184)), (.int .i64 (.lit 6)), (.int .i64 (.lit 10)), (.int .i64 (.lit 0)), (.int .i64 (.lit 1)), (.int .i64 (.lit 3))]), (.int .i64 (.var 1)), (.bool (.lit true)), (.agg [(.int .i64 (.lit 1)), (.int .i64 (.lit 0)), (.int .i64 (.lit 0)), (.int .i64 (.ap 10 (.var 1) (.lit (-2147483)) (.lit 2147483))), (.int .i64 (.lit 0)), (.int .i64 (.lit 0)), (.int .i64 (.lit 0))]), U0, U0, U0, U0, U0, U0, U0, U0, U0, U0, U0, U0, U0, U0, U0, U0, U0, U0, U0, U0, U0, U0, U0, U0, U0, U0, U0, U0, U0, U0, U0, U0, U0, U0, U0, U0, U0, U0, U0, U0, U0, U0, U0, U0, U0, U0, U0, U0, U0, U0, U0, U0, U0, U0, U0, U0, U0, U0, U0, U0, U0, U0, U0, U0, U0, U0, U0, U0, U0, U0, U0, U0, U0, U0, U0, U0, U0, U0, U0, U0, U0, U0, U0, U0, U0, U0, U0, U0, U0, U0, U0, U0, U0, U0, U0, U0, U0, U0, U0, U0, U0, U0, U0, U0, U0, U0, U0, U0, U0, U0], [(1048592, ⟨50, [(.int .i64 (.lit 1)), (.int .i64 (.lit 0)), (.int .i64 (.lit 0)), (.int .i64 (.ap 10 (.var 1) (.lit (-2147483)) (.lit 2147483))), (.int .i64 (.lit 0)), (.int .i64 (.lit 0)), (.int .i64 (.lit 0))]⟩), (1048586, ⟨38, [(.int .i64 (.lit 536870912)), (.int .i64 (.lit 1288490188800)), (.int .i64 (.lit 4294967296000)), (.int .i64 (.lit 2147483)), (.int .i64 (.lit 64424)), (.int .i64 (.lit 6442450944)), (.int .i64 (.lit 17179869184)), (.int .i64 (.lit 6)), (.int .i64 (.lit 10)), (.int .i64 (.lit 0)), (.int .i64 (.lit 1)), (.int .i64 (.lit 3))]⟩)],
  (.exit 0), [(.xs 0), (.int .i64 (.var 1)), (.bool (.lit true)), (.int .u8 (.var 2)), U0, U0, U0, U0, (.bool (.lit false)), (.ptr 1048586 0), (.ptr 1048592 0), .any, .any, .any, .any, .any, .any, .any, (.xs 0), (.int .i64 (.var 0)), (.bool (.cmp .gtr (.var 0) (.lit 300))), (.bool (.cmp .gtr (.var 0) (.lit 300))), (.bool (.lit true)), (.bool (.lit false)), (.bool (.lit false)), U0, (.agg [(.int .i64 (.lit 536870912)), (.int .i64 (.lit 1288490188800)), (.int .i64 (.lit 4294967296000)), (.int .i64 (.lit 2147483)), (.int .i64 (.lit 64424)), (.int .i64 (.lit 6442450944)), (.int .i64 (.lit 17179869184)), (.int .i64 (.lit 6)), (.int .i64 (.lit 10)), (.int .i64 (.lit 0)), (.int .i64 (.lit 1)), (.int .i64 (.lit 3))]), (.agg [(.int .i64 (.lit 536870912)), (.int .i64 (.lit 1288490188800)), (.int .i64 (.lit 4294967296000)), (.int .i64 (.lit 2147483)), (.int .i64 (.lit 64424)), (.int .i64 (.lit 6442450944)), (.int .i64 (.lit 17179869184)), (.int .i64 (.lit 6)), (.int .i64 (.lit 10)), (.int .i64 (.lit 0)), (.int .i64 (.lit 1)), (.int .i64 (.lit 3))]), (.int .i64 (.var 1)), (.bool (.lit true)), (.agg [(.int .i64 (.lit 1)), (.int .i64 (.lit 0)), (.int .i64 (.lit 0)), (.int .i64 (.ap 10 (.var 1) (.lit (-2147483)) (.lit 2147483))), (.int .i64 (.lit 0)), (.int .i64 (.lit 0)), (.int .i64 (.lit 0))]), .any, .any, .any, .any, .any, .any, .any, .any, .any, .any, .any, .any, .any, .any, .any, .any, .any, .any, .any, .any, .any, .any, .any, .any, .any, .any, .any, .any, .any, .any, .any, .any, .any, .any, .any, .any, .any, .any, .any, .any, .any, .any, .any, .any, .any, .any, .any, .any, .any, .any, .any, .any, .any, .any, .any, .any, .any, .any, .any, .any, .any, .any, .any, .any, .any, .any, .any, .any, .any, .any, .any, .any, .any, .any, .any, .any, .any, .any, .any, .any, .any, .any, .any, .any, .any, .any, .any, .any, .any, .any, .any, .any, .any, .any, .any, .any, .any, .any, .any, .any, .any, .any, .any, .any, .any, .any, .any, .any, .any, .any], [(1048592, ⟨50, [(.int .i64 (.var 3)), (.int .i64 (.var 4)), (.int .i64 (.var 5)), (.int .i64 (.var 6)), (.int .i64 (.var 7)), (.int .i64 (.var 8)), (.int .i64 (.var 9))]⟩), (1048586, ⟨38, [(.int .i64 (.lit 536870912)), (.int .i64 (.lit 1288490188800)), (.int .i64 (.lit 4294967296000)), (.int .i64 (.lit 2147483)), (.int .i64 (.lit 64424)), (.int .i64 (.lit 6442450944)), (.int .i64 (.lit 17179869184)), (.int .i64 (.lit 6)), (.int .i64 (.lit 10)), (.int .i64 (.lit 0)), (.int .i64 (.lit 1)), (.int .i64 (.lit 3))]⟩)]⟩
def lhAH : St := ⟨Tm.ofL [(.xs 0), (.int .i64 (.var 1)), (.bool (.lit true)), (.int .u8 (.var 2)), U0, U0, U0, U0, (.bool (.lit false)), (.ptr 1048586 0), (.ptr 1048592 0), (.int .i64 (.var 17)), (.int .i64 (.var 18)), .any, .any, .any, .any, .any, (.xs 0), (.int .i64 (.var 0)), (.bool (.cmp .gtr (.var 0) (.lit 300))), (.bool (.cmp .gtr (.var 0) (.lit 300))), (.bool (.lit true)), (.bool (.lit false)), (.bool (.lit false)), U0, (.agg [(.int .i64 (.lit 536870912)), (.int .i64 (.lit 1288490188800)), (.int .i64 (.lit 4294967296000)), (.int .i64 (.lit 2147483)), (.int .i64 (.lit 64424)), (.int .i64 (.lit 6442450944)), (.int .i64 (.lit 17179869184)), (.int .i64 (.lit 6)), (.int .i64 (.lit 10)), (.int .i64 (.lit 0)), (.int .i64 (.lit 1)), (.int .i64 (.lit 3))]), (.agg [(.int .i64 (.lit 536870912)), (.int .i64 (.lit 1288490188800)), (.int .i64 (.lit 4294967296000)), (.int .i64 (.lit 2147483)), (.int .i64 (.lit 64424)), (.int .i64 (.lit 6442450944)), (.int .i64 (.lit 17179869184)), (.int .i64 (.lit 6)), (.int .i64 (.lit 10)), (.int .i64 (.lit 0)), (.int .i64 (.lit 1)), (.int .i64 (.lit 3))]), (.int .i64 (.var 1)), (.bool (.lit true)), (.agg [(.int .i64 (.lit 1)), (.int .i64 (.lit 0)), (.int .i64 (.lit 0)), (.int .i64 (.ap 10 (.var 1) (.lit (-2147483)) (.lit 2147483))), (.int .i64 (.lit 0)), (.int .i64 (.lit 0)), (.int .i64 (.lit 0))]), .any, .any, .any, .any, .any, .any, .any, .any, .any, .any, .any, .any, .any, .any, .any, .any, .any, .any, .any, .any, .any, .any, .any, .any, .any, .any, .any, .any, .any, .any, .any, .any, .any, .any, .any, .any, .any, .any, .any, .any, .any, .any, .any, .any, .any, .any, .any, .any, .any, .any, .any, .any, .any, .any, .any, .any, .any, .any, .any, .any, .any, .any, .any, .any, .any, .any, .any, .any, .any, .any, .any, .any, .any, .any, .any, .any, .any, .any, .any, .any, .any, .any, .any, .any, .any, .any, .any, .any, .any, .any, .any, .any, .any, .any, .any, .any, .any, .any, .any, .any, .any, .any, .any, .any, .any, .any, .any, .any, .any, .any], [(1048592, ⟨50, [(.int .i64 (.var 10)), (.int .i64 (.var 11)), (.int .i64 (.var 12)), (.int .i64 (.var 13)), (.int .i64 (.var 14)), (.int .i64 (.var 15)), (.int .i64 (.var 16))]⟩), (1048586, ⟨38, [(.int .i64 (.lit 536870912)), (.int .i64 (.lit 1288490188800)), (.int .i64 (.lit 4294967296000)), (.int .i64 (.lit 2147483)), (.int .i64 (.lit 64424)), (.int .i64 (.lit 6442450944)), (.int .i64 (.lit 17179869184)), (.int .i64 (.lit 6)), (.int .i64 (.lit 10)), (.int .i64 (.lit 0)), (.int .i64 (.lit 1)), (.int .i64 (.lit 3))]⟩)]⟩
def lhAE : List IE := [(.var 0), (.var 1), (.var 2), (.var 3), (.var 4), (.var 5), (.var 6), (.var 7), (.var 8), (.var 9), (.lit 1), (.lit 0), (.lit 0), (.ap 10 (.var 1) (.lit (-2147483)) (.lit 2147483)), (.lit 0), (.lit 0), (.lit 0), (.lit 0), (.lit 0)]
def lhAB : List BE := []
def lhBL : LoopSum := ⟨[(.xs 0), (.int .i64 (.var 1)), (.bool (.lit false)), (.int .u8 (.var 2)), U0, U0, U0, U0, (.bool (.lit false)), (.ptr 1048586 0), (.ptr 1048592 0), (.int .i64 (.lit 0)), (.int .i64 (.lit 0)), U0, U0, U0, U0, U0, (.xs 0), (.int .i64 (.var 0)), (.bool (.cmp .gtr (.var 0) (.lit 300))), (.bool (.cmp .gtr (.var 0) (.lit 300))), (.bool (.lit true)), (.bool (.lit false)), (.bool (.lit false)), U0, (.agg [(.int .i64 (.lit 536870912)), (.int .i64 (.lit 1288490188800)), (.int .i64 (.lit 4294967296000)), (.int .i64 (.lit 2147483)), (.int .i64 (.lit 64424)), (.int .i64 (.lit 6442450944)), (.int .i64 (.lit 17179869184)), (.int .i64 (.lit 6)), (.int .i64 (.lit 10)), (.int .i64 (.lit 0)), (.int .i64 (.lit 1)), (.int .i64 (.lit 3))]), (.agg [(.int .i64 (.lit 536870912)), (.int .i64 (.lit 1288490188800)), (.int .i64 (.lit 4294967296000)), (.int .i64 (.lit 2147483)), (.int .i64 (.lit 64424)), (.int .i64 (.lit 6442450944)), (.int .i64 (.lit 17179869184)), (.int .i64 (.lit 6)), (.int .i64 (.lit 10)), (.int .i64 (.lit 0)), (.int .i64 (.lit 1)), (.int .i64 (.lit 3))]), (.int .i64 (.var 1)), (.bool (.lit false)), (.agg [(.int .i64 (.lit 0)), (.int .i64 (.lit 0)), (.int .i64 (.lit 0)), (.int .i64 (.lit 0)), (.int .i64 (.lit 0)), (.int .i64 (.lit 0)), (.int .i64 (.lit 0))]), U0, U0, U0, U0, U0, U0, U0, U0, U0, U0, U0, U0, U0, U0, U0, U0, U0, U0, U0, U0, U0, U0, U0, U0, U0, U0, U0, U0, U0, U0, U0, U0, U0, U0, U0, U0, U0, U0, U0, U0, U0, U0, U0, U0, U0, U0, U0, U0, U0, U0, U0, U0, U0, U0, U0, U0, U0, U0, U0, U0, U0, U0, U0, U0, U0, U0, U0, U0, U0, U0, U0, U0, U0, U0, U0, U0, U0, U0, U0, U0, U0, U0, U0, U0, U0, U0, U0, U0, U0, U0, U0, U0, U0, U0, U0, U0, U0, U0, U0, U0, U0, U0, U0, U0, U0, U0, U0, U0, U0, U0], [(1048592, ⟨50, [(.int .i64 (.lit 0)), (.int .i64 (.lit 0)), (.int .i64 (.lit 0)), (.int .i64 (.lit 0)), (.int .i64 (.lit 0)), (.int .i64 (.lit 0)), (.int .i64 (.lit 0))]⟩), (1048586, ⟨38, [(.int .i64 (.lit 536870912)), (.int .i64 (.lit 1288490188800)), (.int .i64 (.lit 4294967296000)), (.int .i64 (.lit 2147483)), (.int .i64 (.lit 64424)), (.int .i64 (.lit 6442450944)), (.int .i64 (.lit 17179869184)), (.int .i64 (.lit 6)), (.int .i64 (.lit 10)), (.int .i64 (.lit 0)), (.int .i64 (.lit 1)), (.int .i64 (.lit 3))]⟩)],
  (.exit 0), [(.xs 0), (.int .i64 (.var 1)), (.bool (.lit false)), (.int .u8 (.var 2)), U0, U0, U0, U0, (.bool (.lit false)), (.ptr 1048586 0), (.ptr 1048592 0), .any, .any, .any, .any, .any, .any, .any, (.xs 0), (.int .i64 (.var 0)), (.bool (.cmp .gtr (.var 0) (.lit 300))), (.bool (.cmp .gtr (.var 0) (.lit 300))), (.bool (.lit true)), (.bool (.lit false)), (.bool (.lit false)), U0, (.agg [(.int .i64 (.lit 536870912)), (.int .i64 (.lit 1288490188800)), (.int .i64 (.lit 4294967296000)), (.int .i64 (.lit 2147483)), (.int .i64 (.lit 64424)), (.int .i64 (.lit 6442450944)), (.int .i64 (.lit 17179869184)), (.int .i64 (.lit 6)), (.int .i64 (.lit 10)), (.int .i64 (.lit 0)), (.int .i64 (.lit 1)), (.int .i64 (.lit 3))]), (.agg [(.int .i64 (.lit 536870912)), (.int .i64 (.lit 1288490188800)), (.int .i64 (.lit 4294967296000)), (.int .i64 (.lit 2147483)), (.int .i64 (.lit 64424)), (.int .i64 (.lit 6442450944)), (.int .i64 (.lit 17179869184)), (.int .i64 (.lit 6)), (.int .i64 (.lit 10)), (.int .i64 (.lit 0)), (.int .i64 (.lit 1)), (.int .i64 (.lit 3))]), (.int .i64 (.var 1)), (.bool (.lit false)), (.agg [(.int .i64 (.lit 0)), (.int .i64 (.lit 0)), (.int .i64 (.lit 0)), (.int .i64 (.lit 0)), (.int .i64 (.lit 0)), (.int .i64 (.lit 0)), (.int .i64 (.lit 0))]), .any, .any, .any, .any, .any, .any, .any, .any, .any, .any, .any, .any, .any, .any, .any, .any, .any, .any, .any, .any, .any, .any, .any, .any, .any, .any, .any, .any, .any, .any, .any, .any, .any, .any, .any, .any, .any, .any, .any, .any, .any, .any, .any, .any, .any, .any, .any, .any, .any, .any, .any, .any, .any, .any, .any, .any, .any, .any, .any, .any, .any, .any, .any, .any, .any, .any, .any, .any, .any, .any, .any, .any, .any, .any, .any, .any, .any, .any, .any, .any, .any, .any, .any, .any, .any, .any, .any, .any, .any, .any, .any, .any, .any, .any, .any, .any, .any, .any, .any, .any, .any, .any, .any, .any, .any, .any, .any, .any, .any, .any], [(1048592, ⟨50, [(.int .i64 (.var 3)), (.int .i64 (.var 4)), (.int .i64 (.var 5)), (.int .i64 (.var 6)), (.int .i64 (.var 7)), (.int .i64 (.var 8)), (.int .i64 (.var 9))]⟩), (1048586, ⟨38, [(.int .i64 (.lit 536870912)), (.int .i64 (.lit 1288490188800)), (.int .i64 (.lit 4294967296000)), (.int .i64 (.lit 2147483)), (.int .i64 (.lit 64424)), (.int .i64 (.lit 6442450944)), (.int .i64 (.lit 17179869184)), (.int .i64 (.lit 6)), (.int .i64 (.lit 10)), (.int .i64 (.lit 0)), (.int .i64 (.lit 1)), (.int .i64 (.lit 3))]⟩)]⟩
def lhBH : St := ⟨Tm.ofL [(.xs 0), (.int .i64 (.var 1)), (.bool (.lit false)), (.int .u8 (.var 2)), U0, U0, U0, U0, (.bool (.lit false)), (.ptr 1048586 0), (.ptr 1048592 0), (.int .i64 (.var 17)), (.int .i64 (.var 18)), .any, .any, .any, .any, .any, (.xs 0), (.int .i64 (.var 0)), (.bool (.cmp .gtr (.var 0) (.lit 300))), (.bool (.cmp .gtr (.var 0) (.lit 300))), (.bool (.lit true)), (.bool (.lit false)), (.bool (.lit false)), U0, (.agg [(.int .i64 (.lit 536870912)), (.int .i64 (.lit 1288490188800)), (.int .i64 (.lit 4294967296000)), (.int .i64 (.lit 2147483)), (.int .i64 (.lit 64424)), (.int .i64 (.lit 6442450944)), (.int .i64 (.lit 17179869184)), (.int .i64 (.lit 6)), (.int .i64 (.lit 10)), (.int .i64 (.lit 0)), (.int .i64 (.lit 1)), (.int .i64 (.lit 3))]), (.agg [(.int .i64 (.lit 536870912)), (.int .i64 (.lit 1288490188800)), (.int .i64 (.lit 4294967296000)), (.int .i64 (.lit 2147483)), (.int .i64 (.lit 64424)), (.int .i64 (.lit 6442450944)), (.int .i64 (.lit 17179869184)), (.int .i64 (.lit 6)), (.int .i64 (.lit 10)), (.int .i64 (.lit 0)), (.int .i64 (.lit 1)), (.int .i64 (.lit 3))]), (.int .i64 (.var 1)), (.bool (.lit false)), (.agg [(.int .i64 (.lit 0)), (.int .i64 (.lit 0)), (.int .i64 (.lit 0)), (.int .i64 (.lit 0)), (.int .i64 (.lit 0)), (.int .i64 (.lit 0)), (.int .i64 (.lit 0))]), .any, .any, .any, .any, .any, .any, .any, .any, .any, .any, .any, .any, .any, .any, .any, .any, .any, .any, .any, .any, .any, .any, .any, .any, .any, .any, .any, .any, .any, .any, .any, .any, .any, .any, .any, .any, .any, .any, .any, .any, .any, .any, .any, .any, .any, .any, .any, .any, .any, .any, .any, .any, .any, .any, .any, .any, .any, .any, .any, .any, .any, .any, .any, .any, .any, .any, .any, .any, .any, .any, .any, .any, .any, .any, .any, .any, .any, .any, .any, .any, .any, .any, .any, .any, .any, .any, .any, .any, .any, .any, .any, .any, .any, .any, .any, .any, .any, .any, .any, .any, .any, .any, .any, .any, .any, .any, .any, .any, .any, .any], [(1048592, ⟨50, [(.int .i64 (.var 10)), (.int .i64 (.var 11)), (.int .i64 (.var 12)), (.int .i64 (.var 13)), (.int .i64 (.var 14)), (.int .i64 (.var 15)), (.int .i64 (.var 16))]⟩), (1048586, ⟨38, [(.int .i64 (.lit 536870912)), (.int .i64 (.lit 1288490188800)), (.int .i64 (.lit 4294967296000)), (.int .i64 (.lit 2147483)), (.int .i64 (.lit 64424)), (.int .i64 (.lit 6442450944)), (.int .i64 (.lit 17179869184)), (.int .i64 (.lit 6)), (.int .i64 (.lit 10)), (.int .i64 (.lit 0)), (.int .i64 (.lit 1)), (.int .i64 (.lit 3))]⟩)]⟩
def lhBE : List IE := [(.var 0), (.var 1), (.var 2), (.var 3), (.var 4), (.var 5), (.var 6), (.var 7), (.var 8), (.var 9), (.lit 0), (.lit 0), (.lit 0), (.lit 0), (.lit 0), (.lit 0), (.lit 0), (.lit 0), (.lit 0)]
def lhBB : List BE := []
def lhT : RT :=
(.node (.cmp .lss (.var 18) (.var 0))
 (.node (.cmp .eql (.var 10) (.lit 0))
 (.node (.cmp .eql (.var 28) (.lit 190))
 .dead
 (.node (.cmp .eql (.var 28) (.lit 0))
 (.go [(.var 0), (.var 1), (.var 2), (.var 3), (.var 4), (.var 5), (.var 6), (.var 7), (.var 8), (.var 9), (.var 19), (.var 20), (.var 21), (.var 22), (.var 23), (.var 24), (.var 25), (.pl .add (.var 17) (.pl .mul (.ap 21 (.var 18) (.lit 0) (.lit 0)) (.lit 4294967296))), (.pl .add (.var 18) (.lit 1))] [])
 .dead))
 (.node (.cmp .lss (.lit 4294967296000) (.ap 20 (.var 18) (.lit 0) (.lit 0)))
 (.node (.cmp .eql (.var 28) (.lit 190))
 (.node (.cmp .eql (.var 19) (.var 10))
 (.node (.cmp .eql (.var 20) (.var 11))
 (.node (.cmp .eql (.var 21) (.var 12))
 (.node (.cmp .eql (.var 22) (.var 13))
 (.node (.cmp .eql (.var 23) (.var 14))
 (.node (.cmp .eql (.var 24) (.var 15))
 (.node (.cmp .eql (.var 25) (.var 16))
 (.go [(.var 0), (.var 1), (.var 2), (.var 3), (.var 4), (.var 5), (.var 6), (.var 7), (.var 8), (.var 9), (.var 19), (.var 20), (.var 21), (.var 22), (.var 23), (.var 24), (.var 25), (.pl .add (.var 17) (.pl .mul (.ap 21 (.var 18) (.lit 0) (.lit 0)) (.lit 4294967296))), (.pl .add (.var 18) (.lit 1))] [])
 .dead)
 .dead)
 .dead)
 .dead)
 .dead)
 .dead)
 .dead)
 .dead)
 (.node (.cmp .eql (.var 28) (.lit 190))
 (.node (.cmp .lss (.ap 20 (.var 18) (.lit 0) (.lit 0)) (.lit (-4294967296000)))
 (.node (.cmp .eql (.var 19) (.var 10))
 (.node (.cmp .eql (.var 20) (.var 11))
 (.node (.cmp .eql (.var 21) (.var 12))
 (.node (.cmp .eql (.var 22) (.var 13))
 (.node (.cmp .eql (.var 23) (.var 14))
 (.node (.cmp .eql (.var 24) (.var 15))
 (.node (.cmp .eql (.var 25) (.var 16))
 (.go [(.var 0), (.var 1), (.var 2), (.var 3), (.var 4), (.var 5), (.var 6), (.var 7), (.var 8), (.var 9), (.var 19), (.var 20), (.var 21), (.var 22), (.var 23), (.var 24), (.var 25), (.pl .add (.var 17) (.pl .mul (.ap 21 (.var 18) (.lit 0) (.lit 0)) (.lit 4294967296))), (.pl .add (.var 18) (.lit 1))] [])
 .dead)
 .dead)
 .dead)
 .dead)
 .dead)
 .dead)
 .dead)
 .dead)
 (.node (.cmp .lss (.ap 20 (.var 18) (.lit 0) (.lit 0)) (.lit (-4294967296000)))
 .dead
 (.node (.cmp .eql (.var 28) (.lit 0))
 (.go [(.var 0), (.var 1), (.var 2), (.var 3), (.var 4), (.var 5), (.var 6), (.var 7), (.var 8), (.var 9), (.var 19), (.var 20), (.var 21), (.var 22), (.var 23), (.var 24), (.var 25), (.pl .add (.var 17) (.pl .mul (.ap 21 (.var 18) (.lit 0) (.lit 0)) (.lit 4294967296))), (.pl .add (.var 18) (.lit 1))] [])
 .dead)))))
 (.stop [(.var 0), (.var 1), (.var 2), (.var 10), (.var 11), (.var 12), (.var 13), (.var 14), (.var 15), (.var 16)] []))

abbrev fR : Int × Int := (-2147483, 2147483)
abbrev nN : Int × Int := (0, 9223372036854775807)
abbrev lhR : List (Int × Int) := [(1, 300), i64R, (0, 255), (0, 4), i64R, i64R, fR, nN, nN, i64R]
abbrev lhRx : List (Int × Int) := lhR ++ [(0, 4), i64R, i64R, fR, nN, nN, i64R, (0, 84441204523008000), (0, 300), (0, 4), i64R, i64R, fR, nN, nN, i64R, (0, 2), i64R, (0, 190)]
noncomputable abbrev lhAr : List (Int × Int) := arN ++ [i64R, (0, 65535)]
abbrev lhXs : List XD := [⟨0, 20, [.int .i64, .int .u16]⟩]
abbrev lhU : SV := .tuple [.agg [.int .i64 (.var 19), .int .i64 (.var 20), .int .i64 (.var 21), .int .i64 (.var 22), .int .i64 (.var 23), .int .i64 (.var 24), .int .i64 (.var 25)], .int .i64 (.var 26), .int .i64 (.var 27), .int .i64 (.var 28)]
abbrev lhD : SV := .agg [.int .i64 (.var 10), .int .i64 (.var 11), .int .i64 (.var 12), .int .i64 (.var 13), .int .i64 (.var 14), .int .i64 (.var 15), .int .i64 (.var 16)]
abbrev lhK : List (FuncId × List SV × SV) := k19 ++ [(22, [stdS, lhD, .int .i64 (.ap 20 (.var 18) (.lit 0) (.lit 0)), .int .i64 (.pl .add (.var 17) (.pl .mul (.ap 21 (.var 18) (.lit 0) (.lit 0)) (.lit 4294967296))), .int .i64 (.var 2)], lhU)]
noncomputable abbrev lhX : Ctx := { pc := [], cr := lhK ++ crS, rg := lhRx, ar := lhAr, ct := conCt lhRx lhAr consN, xs := lhXs }
abbrev lhP : List Nat := [0, 1, 0, 1, 1, 1, 1, 1]
theorem lhA_lpB : lpB Try.prog lhX 600 9 lhP 1 lhAL lhAH lhT lhAE lhAB = true := by kernel_rfl
theorem lhB_lpB : lpB Try.prog lhX 600 9 lhP 1 lhBL lhBH lhT lhBE lhBB = true := by kernel_rfl
theorem abs_panic (o : Int) (ho : InI o) : (4294967296000 < apN 11 o 0 0 ↔ (4294967296000 < o ∨ o < -4294967296000)) := by
  have e : apN 11 o 0 0 = sat (nAbs o) := rfl
  rw [e]
  unfold nAbs
  have := ho.1
  have := ho.2
  split <;> (unfold sat; omega)
/-- a discipline that is held -/
structure Dsc.held (d : Dsc) : Prop where
  ok : d.ok
  f : -2147483 ≤ d.f ∧ d.f ≤ 2147483
  j : 0 ≤ d.j
  wa : 0 ≤ d.wa
theorem Dsc.held.upd {d : Dsc} (h : d.held) {off at' p : Int} (ho : InI off) (ha : InI at') : (d.upd off at' p).d.held := by
  refine ⟨(upd_in d h.ok off at' p ho ha).1, ?_, ?_, ?_⟩
  all_goals
    have hf := h.f
    have hj := h.j
    have hw := h.wa
    have s1 := fun x y => (smI_in x y).1
    have h1 := holdI_in
    unfold Dsc.upd
    repeat' split
    all_goals first | exact hf | exact hj | exact hw | exact s1 _ _ | exact h1 _
theorem start_held {s f : Int} (hs : 0 ≤ s ∧ s ≤ 4) (hf : -2147483 ≤ f ∧ f ≤ 2147483) : (⟨s, 0, 0, f, 0, 0, 0⟩ : Dsc).held := by
  have z : InI 0 := by decide
  exact ⟨⟨hs, z, z, ⟨by show (-9223372036854775808 : Int) ≤ f; omega, by show f ≤ (9223372036854775807 : Int); omega⟩, z, z, z⟩, hf, Int.le_refl _, Int.le_refl _⟩
theorem upd_panic {d : Dsc} {off at' p : Int} (h : d.s ≠ 0 ∧ 4294967296000 < apN 11 off 0 0) : d.upd off at' p = ⟨d, 0, 0, 190⟩ := by
  unfold Dsc.upd; rw [if_pos h]
theorem upd_fine {d : Dsc} {off at' p : Int} (h : ¬ (d.s ≠ 0 ∧ 4294967296000 < apN 11 off 0 0)) : (d.upd off at' p).e = 0 := by
  unfold Dsc.upd; rw [if_neg h]
  repeat' split
  all_goals rfl
/-- what becomes of a discipline, offer by offer -/
noncomputable def dIt (off gap : Int → Int) (p : Int) (d : Dsc) : Nat → Dsc × Int
  | 0 => (d, 0)
  | k + 1 => (((dIt off gap p d k).1.upd (off k) ((dIt off gap p d k).2 + gap k * 4294967296) p).d, (dIt off gap p d k).2 + gap k * 4294967296)
theorem dIt_held {off gap : Int → Int} {p : Int} {d : Dsc} (h : d.held) (ho : ∀ a, InI (off a)) (hg : ∀ a, 0 ≤ gap a ∧ gap a ≤ 65535) : ∀ k : Nat, k ≤ 300 → (dIt off gap p d k).1.held ∧ 0 ≤ (dIt off gap p d k).2 ∧ (dIt off gap p d k).2 ≤ k * 281470681743360
  | 0, _ => ⟨h, by show (0 : Int) ≤ 0 ∧ (0 : Int) ≤ _; omega⟩
  | k + 1, hk => by
    obtain ⟨h1, h2, h3⟩ := dIt_held (p := p) h ho hg k (by omega)
    have h4 := hg k
    simp only [dIt]
    exact ⟨h1.upd (ho k) ⟨by omega, by omega⟩, by omega, by push_cast; omega⟩
abbrev Dsc.l (d : Dsc) : List Int := [d.s, d.a, d.o, d.f, d.j, d.wa, d.re]
abbrev Upd.l (u : Upd) : List Int := u.d.l ++ [u.k, u.b, u.e]
noncomputable abbrev lhLaw (off gap : Int → Int) (n fr p : Int) (d : Dsc) : List Int := [n, fr, p] ++ (dIt off gap p d n.toNat).1.l
noncomputable abbrev lhHd (off gap : Int → Int) (n fr p : Int) (d : Dsc) (k : Nat) : List Int := lhLaw off gap n fr p d ++ ((dIt off gap p d k).1.l ++ [(dIt off gap p d k).2, (k : Int)])
noncomputable abbrev lhSt (off gap : Int → Int) (n fr p : Int) (d : Dsc) (k : Nat) : List Int := lhHd off gap n fr p d k ++ ((dIt off gap p d k).1.upd (off k) ((dIt off gap p d k).2 + gap k * 4294967296) p).l
theorem lh_next {ρ : Env} {off gap : Int → Int} (ha : ρ.a = apR [off, gap]) {n fr p : Int} {d : Dsc} (h : d.held) (ho : ∀ a, InI (off a)) (hg : ∀ a, 0 ≤ gap a ∧ gap a ≤ 65535) {k : Nat} (hk : (k : Int) < n) (hn : n ≤ 300) :
    lhT.next (ρ.on (lhSt off gap n fr p d k) []) = some (lhHd off gap n fr p d (k + 1), []) := by
  obtain ⟨h1, h2, h3⟩ := dIt_held (p := p) h ho hg k (by omega)
  have hP := abs_panic (off k) (ho k)
  have hap0 : ∀ x : Int, ρ.a 20 x 0 0 = off x := fun x => by rw [ha]; rfl
  have hap1 : ∀ x : Int, ρ.a 21 x 0 0 = gap x := fun x => by rw [ha]; rfl
  have e1 : ∀ x y : Int, plI .add x y = x + y := fun _ _ => rfl
  have e2 : ∀ x y : Int, plI .mul x y = x * y := fun _ _ => rfl
  have hs := h1.ok.s
  simp only [lhT, RT.next, BE.den, cmpI, IE.den, Env.on, lhSt, lhHd, lhLaw, Dsc.l, Upd.l, List.cons_append, List.nil_append, List.getD_cons_zero, List.getD_cons_succ, dens, bdens, List.map_cons, List.map_nil, hap0, hap1, e1, e2, dIt]
  have hk0 : ¬ ((k : Int) < 0) := by omega
  generalize dIt off gap p d k = q at *
  by_cases c : q.1.s ≠ 0 ∧ 4294967296000 < apN 11 (off k) 0 0
  · rw [upd_panic c]
    have c2 := hP.1 c.2
    have c1 : (q.1.s == 0) = false := beq_eq_false_iff_ne.2 c.1
    by_cases d1 : 4294967296000 < off k <;> by_cases d2 : off k < -4294967296000 <;> first | (exfalso; omega) | simp [hk, hk0, c1, d1, d2]
  · have he := upd_fine (d := q.1) (off := off k) (at' := q.2 + gap k * 4294967296) (p := p) c
    generalize q.1.upd (off k) (q.2 + gap k * 4294967296) p = u at *
    by_cases c1 : q.1.s = 0
    · simp [hk, hk0, c1, he]
    · have d1 : ¬ 4294967296000 < off k := fun hh => c ⟨c1, hP.2 (.inl hh)⟩
      have d2 : ¬ off k < -4294967296000 := fun hh => c ⟨c1, hP.2 (.inr hh)⟩
      simp [hk, hk0, c1, d1, d2, he]
theorem lh_rg {ρ : Env} {off gap : Int → Int} {n fr p : Int} {d : Dsc} (h : d.held) (ho : ∀ a, InI (off a)) (hg : ∀ a, 0 ≤ gap a ∧ gap a ≤ 65535) (hn : 1 ≤ n ∧ n ≤ 300) (hfr : InI fr) (hp : 0 ≤ p ∧ p ≤ 255) {k : Nat} (hk : (k : Int) ≤ n) : AllIn (ρ.on (lhSt off gap n fr p d k) []).i lhRx 0 := by
  obtain ⟨h1, h2, h3⟩ := dIt_held (p := p) h ho hg k (by omega)
  obtain ⟨g1, _, _⟩ := dIt_held (p := p) h ho hg n.toNat (by omega)
  have hgk := hg k
  have hin : InI ((dIt off gap p d k).2 + gap k * 4294967296) := ⟨by omega, by omega⟩
  have hu := h1.upd (off := off k) (at' := (dIt off gap p d k).2 + gap k * 4294967296) (p := p) (ho k) hin
  obtain ⟨_, v1, v2, v3⟩ := upd_in _ h1.ok (off k) ((dIt off gap p d k).2 + gap k * 4294967296) p (ho k) hin
  have dl : ∀ {x : Dsc}, x.held → (0 ≤ x.j ∧ x.j ≤ 9223372036854775807) ∧ (0 ≤ x.wa ∧ x.wa ≤ 9223372036854775807) := fun hx => ⟨⟨hx.j, hx.ok.j.2⟩, ⟨hx.wa, hx.ok.wa.2⟩⟩
  simp only [AllIn, Env.on, lhSt, lhHd, lhLaw, Dsc.l, Upd.l, List.cons_append, List.nil_append, List.getD_cons_zero, List.getD_cons_succ]
  exact ⟨hn, hfr, hp, g1.ok.s, g1.ok.a, g1.ok.o, g1.f, (dl g1).1, (dl g1).2, g1.ok.re, h1.ok.s, h1.ok.a, h1.ok.o, h1.f, (dl h1).1, (dl h1).2, h1.ok.re, ⟨h2, by omega⟩, ⟨by omega, by omega⟩, hu.ok.s, hu.ok.a, hu.ok.o, hu.f, (dl hu).1, (dl hu).2, hu.ok.re, v1, v2, v3, trivial⟩
theorem lh_arIn {ρ : Env} {off gap : Int → Int} (ha : ρ.a = apR [off, gap]) (ho : ∀ a, InI (off a)) (hg : ∀ a, 0 ≤ gap a ∧ gap a ≤ 65535) : ArIn ρ lhAr := by
  refine arIn_R ha (fun i v h a => ?_)
  rcases i with _ | _ | i <;> simp at h <;> subst h
  · exact ho a
  · exact hg a
theorem lhA_loop {W : World} {v : Value} {B : Ext} {off gap : Int → Int} (hB : XIn [.int .i64, .int .u16] W v B [off, gap]) (ho : ∀ a, InI (off a)) (hg : ∀ a, 0 ≤ gap a ∧ gap a ≤ 65535) (n fr p : Int) (hn : 1 ≤ n ∧ n ≤ 300) (hnB : n = B.len) (hfr : InI fr) (hp : 0 ≤ p ∧ p ≤ 255) {E : List (Nat × Nat)} {w0 : World} {φ0 : Nat → Nat} {st0 : Store} {c : Code} (hc : codeAt Try.prog 9 lhP = .loop c) {st : Store} (hbl : ∀ q ∈ lhAL.bl, Store.get st q.1 = some q.2) {a : Act} {w : World} (hd : ((⟨1, 0, 0, holdI fr, 0, 0, 0⟩ : Dsc)).held)
    (hr : RelF (envOf (lhLaw off gap n fr p (⟨1, 0, 0, holdI fr, 0, 0, 0⟩ : Dsc)) [] [] [] (apR [off, gap]) [some B]) E w0 φ0 st0 ⟨lhAL.tm, st⟩ a w) {Q : Exit → Act → World → Prop} (hQ : ∀ a' w', RelF (envOf (lhLaw off gap n fr p (⟨1, 0, 0, holdI fr, 0, 0, 0⟩ : Dsc)) [] [] [] (apR [off, gap]) [some B]) E w0 φ0 st0 ⟨lhAL.tm', setAll st lhAL.bl'⟩ a' w' → Q lhAL.ex.to a' w') : (Code.loop c).wp Try.prog Q a w := by
  generalize hρ : envOf (lhLaw off gap n fr p (⟨1, 0, 0, holdI fr, 0, 0, 0⟩ : Dsc)) [] [] [] (apR [off, gap]) [some B] = ρ at hr hQ
  have ha : ρ.a = apR [off, gap] := by rw [← hρ]
  have hx : ρ.x 0 = some B := by rw [← hρ]; rfl
  refine rt_lpx lhA_lpB hc (fun m is bs => ∃ k : Nat, (k : Int) ≤ n ∧ m = n.toNat - k ∧ bs = [] ∧ is = lhSt off gap n fr p (⟨1, 0, 0, holdI fr, 0, 0, 0⟩ : Dsc) k) ?_ ?_ ⟨n.toNat, lhSt off gap n fr p (⟨1, 0, 0, holdI fr, 0, 0, 0⟩ : Dsc) 0, [], ⟨0, by omega, rfl, rfl, rfl⟩, ?_, ?_⟩ ?_ hbl hr hQ
  · rintro m is bs ⟨k, hk, _, rfl, rfl⟩
    refine knows_env rfl (lh_rg hd ho hg hn hfr hp hk) (lh_arIn (by exact ha) ho hg) (xs_one (xok_one hB (by exact ha) ?_) hx)
    exact hnB
  · rintro m is bs ⟨k, hk, _, rfl, rfl⟩ E
    obtain ⟨h1, h2, h3⟩ := dIt_held (p := p) hd ho hg k (by omega)
    have hgk := hg k
    refine knowsC_all (AllIn.get0 (lh_rg hd ho hg hn hfr hp hk)) (numA_R ha) (lh_arIn (by exact ha) ho hg) (fun c hc => ?_) LpOk.none
    rcases List.mem_append.1 hc with hc | hc
    · exact k19_ok c hc
    · rw [List.mem_singleton.1 hc]
      intro φ w _
      have key := upd_any _ h1.ok (off k) ((dIt off gap p (⟨1, 0, 0, holdI fr, 0, 0, 0⟩ : Dsc) k).2 + gap k * 4294967296) p (ho k) ⟨by omega, by omega⟩ hp w
      have e0 : ρ.a 20 k 0 0 = off k := by rw [ha]; rfl
      have e1 : ρ.a 21 k 0 0 = gap k := by rw [ha]; rfl
      have e2 : SV.denL (ρ.on (lhSt off gap n fr p (⟨1, 0, 0, holdI fr, 0, 0, 0⟩ : Dsc) k) []) φ [stdS, lhD, .int .i64 (.ap 20 (.var 18) (.lit 0) (.lit 0)), .int .i64 (.pl .add (.var 17) (.pl .mul (.ap 21 (.var 18) (.lit 0) (.lit 0)) (.lit 4294967296))), .int .i64 (.var 2)] = [stdS.den (envOf []) id, (dIt off gap p (⟨1, 0, 0, holdI fr, 0, 0, 0⟩ : Dsc) k).1.val, .int .i64 (off k), .int .i64 ((dIt off gap p (⟨1, 0, 0, holdI fr, 0, 0, 0⟩ : Dsc) k).2 + gap k * 4294967296), .int .i64 p] := by
        rw [← e0, ← e1]; rfl
      show Calls _ _ (SV.denL _ φ [stdS, lhD, .int .i64 (.ap 20 (.var 18) (.lit 0) (.lit 0)), .int .i64 (.pl .add (.var 17) (.pl .mul (.ap 21 (.var 18) (.lit 0) (.lit 0)) (.lit 4294967296))), .int .i64 (.var 2)]).toArray w _
      rw [e2]
      exact key
  · rw [← hρ]
    exact ⟨_, rfl⟩
  · exact ⟨[], rfl⟩
  · rintro m is bs ⟨k, hk, rfl, rfl, rfl⟩
    by_cases hlt : (k : Int) < n
    · exact .inl ⟨_, [], n.toNat - (k + 1), lhSt off gap n fr p (⟨1, 0, 0, holdI fr, 0, 0, 0⟩ : Dsc) (k + 1), [], lh_next ha hd ho hg hlt hn.2, by omega, ⟨k + 1, by omega, rfl, rfl, rfl⟩, ⟨_, rfl⟩, ⟨[], rfl⟩⟩
    · obtain rfl : k = n.toNat := by omega
      refine .inr ⟨lhLaw off gap n fr p (⟨1, 0, 0, holdI fr, 0, 0, 0⟩ : Dsc), [], ?_, ?_⟩
      · have hlt' : ¬ ((n.toNat : Nat) : Int) < n := by omega
        simp only [lhT, RT.out, BE.den, cmpI, IE.den, Env.on, lhSt, lhHd, lhLaw, Dsc.l, Upd.l, List.cons_append, List.nil_append, List.getD_cons_zero, List.getD_cons_succ, dens, bdens, List.map_cons, List.map_nil, decide_eq_false hlt', cond_false]
      · rw [← hρ]; exact envOf_has _ _ _ _ _ _
theorem lhB_loop {W : World} {v : Value} {B : Ext} {off gap : Int → Int} (hB : XIn [.int .i64, .int .u16] W v B [off, gap]) (ho : ∀ a, InI (off a)) (hg : ∀ a, 0 ≤ gap a ∧ gap a ≤ 65535) (n fr p : Int) (hn : 1 ≤ n ∧ n ≤ 300) (hnB : n = B.len) (hfr : InI fr) (hp : 0 ≤ p ∧ p ≤ 255) {E : List (Nat × Nat)} {w0 : World} {φ0 : Nat → Nat} {st0 : Store} {c : Code} (hc : codeAt Try.prog 9 lhP = .loop c) {st : Store} (hbl : ∀ q ∈ lhBL.bl, Store.get st q.1 = some q.2) {a : Act} {w : World} (hd : ((⟨0, 0, 0, 0, 0, 0, 0⟩ : Dsc)).held)
    (hr : RelF (envOf (lhLaw off gap n fr p (⟨0, 0, 0, 0, 0, 0, 0⟩ : Dsc)) [] [] [] (apR [off, gap]) [some B]) E w0 φ0 st0 ⟨lhBL.tm, st⟩ a w) {Q : Exit → Act → World → Prop} (hQ : ∀ a' w', RelF (envOf (lhLaw off gap n fr p (⟨0, 0, 0, 0, 0, 0, 0⟩ : Dsc)) [] [] [] (apR [off, gap]) [some B]) E w0 φ0 st0 ⟨lhBL.tm', setAll st lhBL.bl'⟩ a' w' → Q lhBL.ex.to a' w') : (Code.loop c).wp Try.prog Q a w := by
  generalize hρ : envOf (lhLaw off gap n fr p (⟨0, 0, 0, 0, 0, 0, 0⟩ : Dsc)) [] [] [] (apR [off, gap]) [some B] = ρ at hr hQ
  have ha : ρ.a = apR [off, gap] := by rw [← hρ]
  have hx : ρ.x 0 = some B := by rw [← hρ]; rfl
  refine rt_lpx lhB_lpB hc (fun m is bs => ∃ k : Nat, (k : Int) ≤ n ∧ m = n.toNat - k ∧ bs = [] ∧ is = lhSt off gap n fr p (⟨0, 0, 0, 0, 0, 0, 0⟩ : Dsc) k) ?_ ?_ ⟨n.toNat, lhSt off gap n fr p (⟨0, 0, 0, 0, 0, 0, 0⟩ : Dsc) 0, [], ⟨0, by omega, rfl, rfl, rfl⟩, ?_, ?_⟩ ?_ hbl hr hQ
  · rintro m is bs ⟨k, hk, _, rfl, rfl⟩
    refine knows_env rfl (lh_rg hd ho hg hn hfr hp hk) (lh_arIn (by exact ha) ho hg) (xs_one (xok_one hB (by exact ha) ?_) hx)
    exact hnB
  · rintro m is bs ⟨k, hk, _, rfl, rfl⟩ E
    obtain ⟨h1, h2, h3⟩ := dIt_held (p := p) hd ho hg k (by omega)
    have hgk := hg k
    refine knowsC_all (AllIn.get0 (lh_rg hd ho hg hn hfr hp hk)) (numA_R ha) (lh_arIn (by exact ha) ho hg) (fun c hc => ?_) LpOk.none
    rcases List.mem_append.1 hc with hc | hc
    · exact k19_ok c hc
    · rw [List.mem_singleton.1 hc]
      intro φ w _
      have key := upd_any _ h1.ok (off k) ((dIt off gap p (⟨0, 0, 0, 0, 0, 0, 0⟩ : Dsc) k).2 + gap k * 4294967296) p (ho k) ⟨by omega, by omega⟩ hp w
      have e0 : ρ.a 20 k 0 0 = off k := by rw [ha]; rfl
      have e1 : ρ.a 21 k 0 0 = gap k := by rw [ha]; rfl
      have e2 : SV.denL (ρ.on (lhSt off gap n fr p (⟨0, 0, 0, 0, 0, 0, 0⟩ : Dsc) k) []) φ [stdS, lhD, .int .i64 (.ap 20 (.var 18) (.lit 0) (.lit 0)), .int .i64 (.pl .add (.var 17) (.pl .mul (.ap 21 (.var 18) (.lit 0) (.lit 0)) (.lit 4294967296))), .int .i64 (.var 2)] = [stdS.den (envOf []) id, (dIt off gap p (⟨0, 0, 0, 0, 0, 0, 0⟩ : Dsc) k).1.val, .int .i64 (off k), .int .i64 ((dIt off gap p (⟨0, 0, 0, 0, 0, 0, 0⟩ : Dsc) k).2 + gap k * 4294967296), .int .i64 p] := by
        rw [← e0, ← e1]; rfl
      show Calls _ _ (SV.denL _ φ [stdS, lhD, .int .i64 (.ap 20 (.var 18) (.lit 0) (.lit 0)), .int .i64 (.pl .add (.var 17) (.pl .mul (.ap 21 (.var 18) (.lit 0) (.lit 0)) (.lit 4294967296))), .int .i64 (.var 2)]).toArray w _
      rw [e2]
      exact key
  · rw [← hρ]
    exact ⟨_, rfl⟩
  · exact ⟨[], rfl⟩
  · rintro m is bs ⟨k, hk, rfl, rfl, rfl⟩
    by_cases hlt : (k : Int) < n
    · exact .inl ⟨_, [], n.toNat - (k + 1), lhSt off gap n fr p (⟨0, 0, 0, 0, 0, 0, 0⟩ : Dsc) (k + 1), [], lh_next ha hd ho hg hlt hn.2, by omega, ⟨k + 1, by omega, rfl, rfl, rfl⟩, ⟨_, rfl⟩, ⟨[], rfl⟩⟩
    · obtain rfl : k = n.toNat := by omega
      refine .inr ⟨lhLaw off gap n fr p (⟨0, 0, 0, 0, 0, 0, 0⟩ : Dsc), [], ?_, ?_⟩
      · have hlt' : ¬ ((n.toNat : Nat) : Int) < n := by omega
        simp only [lhT, RT.out, BE.den, cmpI, IE.den, Env.on, lhSt, lhHd, lhLaw, Dsc.l, Upd.l, List.cons_append, List.nil_append, List.getD_cons_zero, List.getD_cons_succ, dens, bdens, List.map_cons, List.map_nil, decide_eq_false hlt', cond_false]
      · rw [← hρ]; exact envOf_has _ _ _ _ _ _
theorem lhA_walk {W : World} {v : Value} {B : Ext} {off gap : Int → Int} (hB : XIn [.int .i64, .int .u16] W v B [off, gap]) (ho : ∀ a, InI (off a)) (hg : ∀ a, 0 ≤ gap a ∧ gap a ≤ 65535) (hl : B.len ≤ 300) (fr p : Int) (hfr : InI fr) (hp : 0 ≤ p ∧ p ≤ 255) :
    Calls Try.prog 9 #[v, .int .i64 fr, .bool true, .int .u8 p] W fun e w' => e = .returned (.bool true) ∧ Below W.heap.size W w' := by
  have hh := holdI_in fr
  have hd : ((⟨1, 0, 0, holdI fr, 0, 0, 0⟩ : Dsc)).held := start_held (s := 1) (by decide) hh
  have hpos := hB.pos
  obtain ⟨g1, _, _⟩ := dIt_held (p := p) hd ho hg B.len hl
  have key := law_all (ρ := envOf (lhLaw off gap B.len fr p (⟨1, 0, 0, holdI fr, 0, 0, 0⟩ : Dsc)) [] [] [] (apR [off, gap]) [some B]) (rg := lhR) (ar := lhAr) (f := 9) (args := [.xs 0, .int .i64 (.var 1), .bool (.lit true), .int .u8 (.var 2)])
    (by
      simp only [AllIn, lhLaw, Dsc.l, List.cons_append, List.nil_append, List.getD_cons_zero, List.getD_cons_succ, Int.toNat_natCast]
      exact ⟨⟨by omega, by omega⟩, hfr, hp, g1.ok.s, g1.ok.a, g1.ok.o, g1.f, ⟨g1.j, g1.ok.j.2⟩, ⟨g1.wa, g1.ok.wa.2⟩, g1.ok.re, trivial⟩)
    (numA_R rfl) (lh_arIn rfl ho hg) (cr := k19) k19_ok (lp := fun f p _ => if Nat.beq f 9 && decide (p = lhP) then some lhAL else none) ?_ (xs := lhXs) (xs_one (xok_one hB rfl rfl) rfl) (.leaf (.bool (.lit true))) (n := 600) (by kernel_rfl) rfl rfl W (ext_one hB rfl)
  · have e : SV.denL (envOf (lhLaw off gap B.len fr p (⟨1, 0, 0, holdI fr, 0, 0, 0⟩ : Dsc)) [] [] [] (apR [off, gap]) [some B]) id [.xs 0, .int .i64 (.var 1), .bool (.lit true), .int .u8 (.var 2)] = [v, .int .i64 fr, .bool true, .int .u8 p] := by
      rw [hB.val]; rfl
    rw [e] at key
    exact key
  · intro f p' u L hL c hc st hbl _ w0 φ0 st0 a w hr Q hQ
    dsimp only at hL
    split at hL
    · rename_i hfp
      simp only [Bool.and_eq_true, Nat.beq_eq, decide_eq_true_eq] at hfp
      obtain ⟨rfl, rfl⟩ := hfp
      cases hL
      exact lhA_loop hB ho hg B.len fr p ⟨by omega, by omega⟩ rfl hfr hp hc hbl hd hr hQ
    · cases hL
theorem lhB_walk {W : World} {v : Value} {B : Ext} {off gap : Int → Int} (hB : XIn [.int .i64, .int .u16] W v B [off, gap]) (ho : ∀ a, InI (off a)) (hg : ∀ a, 0 ≤ gap a ∧ gap a ≤ 65535) (hl : B.len ≤ 300) (fr p : Int) (hfr : InI fr) (hp : 0 ≤ p ∧ p ≤ 255) :
    Calls Try.prog 9 #[v, .int .i64 fr, .bool false, .int .u8 p] W fun e w' => e = .returned (.bool true) ∧ Below W.heap.size W w' := by
  have hh := holdI_in fr
  have hd : ((⟨0, 0, 0, 0, 0, 0, 0⟩ : Dsc)).held := start_held (s := 0) (f := 0) (by decide) (by decide)
  have hpos := hB.pos
  obtain ⟨g1, _, _⟩ := dIt_held (p := p) hd ho hg B.len hl
  have key := law_all (ρ := envOf (lhLaw off gap B.len fr p (⟨0, 0, 0, 0, 0, 0, 0⟩ : Dsc)) [] [] [] (apR [off, gap]) [some B]) (rg := lhR) (ar := lhAr) (f := 9) (args := [.xs 0, .int .i64 (.var 1), .bool (.lit false), .int .u8 (.var 2)])
    (by
      simp only [AllIn, lhLaw, Dsc.l, List.cons_append, List.nil_append, List.getD_cons_zero, List.getD_cons_succ, Int.toNat_natCast]
      exact ⟨⟨by omega, by omega⟩, hfr, hp, g1.ok.s, g1.ok.a, g1.ok.o, g1.f, ⟨g1.j, g1.ok.j.2⟩, ⟨g1.wa, g1.ok.wa.2⟩, g1.ok.re, trivial⟩)
    (numA_R rfl) (lh_arIn rfl ho hg) (cr := k19) k19_ok (lp := fun f p _ => if Nat.beq f 9 && decide (p = lhP) then some lhBL else none) ?_ (xs := lhXs) (xs_one (xok_one hB rfl rfl) rfl) (.leaf (.bool (.lit true))) (n := 600) (by kernel_rfl) rfl rfl W (ext_one hB rfl)
  · have e : SV.denL (envOf (lhLaw off gap B.len fr p (⟨0, 0, 0, 0, 0, 0, 0⟩ : Dsc)) [] [] [] (apR [off, gap]) [some B]) id [.xs 0, .int .i64 (.var 1), .bool (.lit false), .int .u8 (.var 2)] = [v, .int .i64 fr, .bool false, .int .u8 p] := by
      rw [hB.val]; rfl
    rw [e] at key
    exact key
  · intro f p' u L hL c hc st hbl _ w0 φ0 st0 a w hr Q hQ
    dsimp only at hL
    split at hL
    · rename_i hfp
      simp only [Bool.and_eq_true, Nat.beq_eq, decide_eq_true_eq] at hfp
      obtain ⟨rfl, rfl⟩ := hfp
      cases hL
      exact lhB_loop hB ho hg B.len fr p ⟨by omega, by omega⟩ rfl hfr hp hc hbl hd hr hQ
    · cases hL
theorem lh_empty (kn : Bool) (a : Option Addr) (cap : Nat) : (Tree.leaf (.bool (.lit true))).check Try.prog { pc := [], cr := k19 ++ crS, rg := [i64R, (0, 255)], ar := arN, ct := conCt [i64R, (0, 255)] arN consN } 600 9 [.raw (.slice a 0 cap), .int .i64 (.var 0), .bool (.lit kn), .int .u8 (.var 1)] = true := by
  cases kn <;> kernel_rfl
theorem loopHeld_walk {W : World} {v : Value} (hv : IsXs [.int .i64, .int .u16] W v) (fr p : Int) (kn : Bool) (hfr : InI fr) (hp : 0 ≤ p ∧ p ≤ 255) :
    Calls Try.prog 9 #[v, .int .i64 fr, .bool kn, .int .u8 p] W fun e w' => e = .returned (.bool true) ∧ Below W.heap.size W w' := by
  rcases hv.rows with ⟨a, cap, rfl⟩ | ⟨B, rows, hB⟩
  · exact law_any (bs := []) (fs := []) (is := [fr, p]) (rg := [i64R, (0, 255)]) (args := [.raw (.slice a 0 cap), .int .i64 (.var 0), .bool (.lit kn), .int .u8 (.var 1)]) ⟨hfr, hp, trivial⟩ (cr := k19) k19_ok _ (n := 600) (lh_empty kn a cap) rfl rfl W
  · obtain ⟨off, gap, rfl⟩ : ∃ off gap, rows = [off, gap] := by
      have := hB.len
      match rows, this with
      | [x, y], _ => exact ⟨x, y, rfl⟩
    have ho : ∀ a, InI (off a) := hB.rg 0 _ rfl
    have hg : ∀ a, 0 ≤ gap a ∧ gap a ≤ 65535 := hB.rg 1 _ rfl
    by_cases hl : B.len ≤ 300
    · cases kn
      · exact lhB_walk hB ho hg hl fr p hfr hp
      · exact lhA_walk hB ho hg hl fr p hfr hp
    · have hle := hB.le
      have key := law_all (ρ := envOf [(B.len : Int), fr, p] [kn] [] [] (apR [off, gap]) [some B]) (rg := [(301, 9223372036854775807), i64R, (0, 255)]) (ar := lhAr) (f := 9) (args := [.xs 0, .int .i64 (.var 1), .bool (.var 0), .int .u8 (.var 2)])
        ⟨⟨by show (301 : Int) ≤ (B.len : Nat); omega, by show ((B.len : Nat) : Int) ≤ 9223372036854775807; unfold maxLen at hle; omega⟩, hfr, hp, trivial⟩ (numA_R rfl) (lh_arIn rfl ho hg) (cr := k19) k19_ok LpOk.none (xs := lhXs) (xs_one (xok_one hB rfl rfl) rfl) (.leaf (.bool (.lit true))) (n := 600) (by kernel_rfl) rfl rfl W (ext_one hB rfl)
      have e : SV.denL (envOf [(B.len : Int), fr, p] [kn] [] [] (apR [off, gap]) [some B]) id [.xs 0, .int .i64 (.var 1), .bool (.var 0), .int .u8 (.var 2)] = [v, .int .i64 fr, .bool kn, .int .u8 p] := by
        rw [hB.val]; rfl
      rw [e] at key
      exact key
end Go.Proofs.Ythhipnhnpjhaaaa
