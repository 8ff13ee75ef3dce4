/- Law 19: LoopSteps. -/
import Derived.Test.YthhipnhnpjhaaaaT19s
namespace Go.Proofs.Ythhipnhnpjhaaaa
open Go Go.RowKit Ev
set_option linter.unusedVariables false
set_option linter.unusedSimpArgs false
set_option maxRecDepth 100000

def lpAL : LoopSum := ⟨[(.xs 0), (.bool (.lit true)), (.int .u8 (.var 1)), U0, U0, U0, (.bool (.lit false)), (.ptr 1048586 0), (.ptr 1048591 0), (.int .i64 (.lit 0)), (.int .i64 (.lit 0)), (.bool (.lit false)), (.int .i64 (.lit 0)), U0, U0, U0, U0, U0, U0, (.xs 0), (.int .i64 (.var 0)), (.bool (.cmp .gtr (.var 0) (.lit 300))), (.bool (.cmp .gtr (.var 0) (.lit 300))), (.bool (.lit true)), (.bool (.lit false)), (.bool (.lit false)), U0, (.agg [(.int .i64 (.lit 536870912)), (.int .i64 (.lit 1288490188800)), (.int .i64 (.lit 4294967296000)), (.int .i64 (.lit 2147483)), (.int .i64 (.lit 64424)), (.int .i64 (.lit 6442450944)), (.int .i64 (.lit 17179869184)), (.int .i64 (.lit 6)), (.int .i64 (.lit 10)), (.int .i64 (.lit 0)), (.int .i64 (.lit 1)), (.int .i64 (.lit 3))]), (.agg [(.int .i64 (.lit 536870912)), (.int .i64 (.lit 1288490188800)), (.int .i64 (.lit 4294967296000)), (.int .i64 (.lit 2147483)), (.int .i64 (.lit 64424)), (.int .i64 (.lit 6442450944)), (.int .i64 (.lit 17179869184)), (.int .i64 (.lit 6)), (.int .i64 (.lit 10)), (.int .i64 (.lit 0)), (.int .i64 (.lit 1)), (.int .i64 (.lit 3))]), (.bool (.lit true)), (.agg [(.int .i64 (.lit 1)), (.int .i64 (.lit 0)), (.int .i64 (.lit 0)), (.int .i64 (.lit 7)), (.int .i64 (.lit 0)), (.int .i64 (.lit 0)), (.int .i64 (.lit 0))]), U0, U0, U0, U0, U0, U0, U0, U0, U0, U0, U0, U0, U0, U0, U0, U0, U0, U0, U0, U0, U0, U0, U0, U0, U0, U0, U0, U0, U0, U0, U0, U0, U0, U0, U0, U0, U0, U0, U0, U0, U0, U0, U0, U0, U0, U0, U0, U0, U0, U0, U0, U0, U0, U0, U0, U0, U0, U0, U0, U0, U0, U0, U0, U0, U0, U0, U0, U0, U0, U0, U0, U0, U0, U0, U0, U0, U0, U0, U0, U0, U0, U0, U0, U0, U0, U0, U0, U0, U0, U0, U0, U0, U0, U0, U0, U0, U0, U0, U0, U0, U0, U0, U0, U0, U0, U0, U0, U0, U0, U0, U0, U0, U0, U0, U0, U0, U0], [(1048591, ⟨50, [(.int .i64 (.lit 1)), (.int .i64 (.lit 0)), (.int .i64 (.lit 0)), (.int .i64 (.lit 7)), (.int .i64 (.lit 0)), (.int .i64 (.lit 0)), (.int .i64 (.lit 0))]⟩), (1048586, ⟨38, [(.int .i64 (.lit 536870912)), (.int .i64 (.lit 1288490188800)), (.int .i64 (.lit 4294967296000)), (.int .i64 (.lit 2147483)), (.int .i64 (.lit 64424)), (.int .i64 (.lit 6442450944)), (.int .i64 (.lit 17179869184)), (.int .i64 (.lit 6)), (.int .i64 (.lit 10)), (.int .i64 (.lit 0)), (.int .i64 (.lit 1)), (.int .i64 (.lit 3))]⟩)],
  (.exit 0), [(.xs 0), (.bool (.lit true)), (.int .u8 (.var 1)), U0, U0, U0, (.bool (.lit false)), (.ptr 1048586 0), (.ptr 1048591 0), .any, .any, .any, .any, .any, .any, .any, .any, .any, .any, (.xs 0), (.int .i64 (.var 0)), (.bool (.cmp .gtr (.var 0) (.lit 300))), (.bool (.cmp .gtr (.var 0) (.lit 300))), (.bool (.lit true)), (.bool (.lit false)), (.bool (.lit false)), U0, (.agg [(.int .i64 (.lit 536870912)), (.int .i64 (.lit 1288490188800)), (.int .i64 (.lit 4294967296000)), (.int .i64 (.lit 2147483)), (.int .i64 (.lit 64424)), (.int .i64 (.lit 6442450944)), (.int .i64 (.lit 17179869184)), (.int .i64 (.lit 6)), (.int .i64 (.lit 10)), (.int .i64 (.lit 0)), (.int .i64 (.lit 1)), (.int .i64 (.lit 3))]), (.agg [(.int .i64 (.lit 536870912)), (.int .i64 (.lit 1288490188800)), (.int .i64 (.lit 4294967296000)), (.int .i64 (.lit 2147483)), (.int .i64 (.lit 64424)), (.int .i64 (.lit 6442450944)), (.int .i64 (.lit 17179869184)), (.int .i64 (.lit 6)), (.int .i64 (.lit 10)), (.int .i64 (.lit 0)), (.int .i64 (.lit 1)), (.int .i64 (.lit 3))]), (.bool (.lit true)), (.agg [(.int .i64 (.lit 1)), (.int .i64 (.lit 0)), (.int .i64 (.lit 0)), (.int .i64 (.lit 7)), (.int .i64 (.lit 0)), (.int .i64 (.lit 0)), (.int .i64 (.lit 0))]), .any, .any, .any, .any, .any, .any, .any, .any, .any, .any, .any, .any, .any, .any, .any, .any, .any, .any, .any, .any, .any, .any, .any, .any, .any, .any, .any, .any, .any, .any, .any, .any, .any, .any, .any, .any, .any, .any, .any, .any, .any, .any, .any, .any, .any, .any, .any, .any, .any, .any, .any, .any, .any, .any, .any, .any, .any, .any, .any, .any, .any, .any, .any, .any, .any, .any, .any, .any, .any, .any, .any, .any, .any, .any, .any, .any, .any, .any, .any, .any, .any, .any, .any, .any, .any, .any, .any, .any, .any, .any, .any, .any, .any, .any, .any, .any, .any, .any, .any, .any, .any, .any, .any, .any, .any, .any, .any, .any, .any, .any, .any, .any, .any, .any, .any, .any, .any], [(1048591, ⟨50, [(.int .i64 (.var 2)), (.int .i64 (.var 3)), (.int .i64 (.var 4)), (.int .i64 (.var 5)), (.int .i64 (.var 6)), (.int .i64 (.var 7)), (.int .i64 (.var 8))]⟩), (1048586, ⟨38, [(.int .i64 (.lit 536870912)), (.int .i64 (.lit 1288490188800)), (.int .i64 (.lit 4294967296000)), (.int .i64 (.lit 2147483)), (.int .i64 (.lit 64424)), (.int .i64 (.lit 6442450944)), (.int .i64 (.lit 17179869184)), (.int .i64 (.lit 6)), (.int .i64 (.lit 10)), (.int .i64 (.lit 0)), (.int .i64 (.lit 1)), (.int .i64 (.lit 3))]⟩)]⟩
def lpAH : St := ⟨Tm.ofL [(.xs 0), (.bool (.lit true)), (.int .u8 (.var 1)), U0, U0, U0, (.bool (.lit false)), (.ptr 1048586 0), (.ptr 1048591 0), (.int .i64 (.var 16)), (.int .i64 (.var 17)), (.bool (.var 0)), (.int .i64 (.var 18)), .any, .any, .any, .any, .any, .any, (.xs 0), (.int .i64 (.var 0)), (.bool (.cmp .gtr (.var 0) (.lit 300))), (.bool (.cmp .gtr (.var 0) (.lit 300))), (.bool (.lit true)), (.bool (.lit false)), (.bool (.lit false)), U0, (.agg [(.int .i64 (.lit 536870912)), (.int .i64 (.lit 1288490188800)), (.int .i64 (.lit 4294967296000)), (.int .i64 (.lit 2147483)), (.int .i64 (.lit 64424)), (.int .i64 (.lit 6442450944)), (.int .i64 (.lit 17179869184)), (.int .i64 (.lit 6)), (.int .i64 (.lit 10)), (.int .i64 (.lit 0)), (.int .i64 (.lit 1)), (.int .i64 (.lit 3))]), (.agg [(.int .i64 (.lit 536870912)), (.int .i64 (.lit 1288490188800)), (.int .i64 (.lit 4294967296000)), (.int .i64 (.lit 2147483)), (.int .i64 (.lit 64424)), (.int .i64 (.lit 6442450944)), (.int .i64 (.lit 17179869184)), (.int .i64 (.lit 6)), (.int .i64 (.lit 10)), (.int .i64 (.lit 0)), (.int .i64 (.lit 1)), (.int .i64 (.lit 3))]), (.bool (.lit true)), (.agg [(.int .i64 (.lit 1)), (.int .i64 (.lit 0)), (.int .i64 (.lit 0)), (.int .i64 (.lit 7)), (.int .i64 (.lit 0)), (.int .i64 (.lit 0)), (.int .i64 (.lit 0))]), .any, .any, .any, .any, .any, .any, .any, .any, .any, .any, .any, .any, .any, .any, .any, .any, .any, .any, .any, .any, .any, .any, .any, .any, .any, .any, .any, .any, .any, .any, .any, .any, .any, .any, .any, .any, .any, .any, .any, .any, .any, .any, .any, .any, .any, .any, .any, .any, .any, .any, .any, .any, .any, .any, .any, .any, .any, .any, .any, .any, .any, .any, .any, .any, .any, .any, .any, .any, .any, .any, .any, .any, .any, .any, .any, .any, .any, .any, .any, .any, .any, .any, .any, .any, .any, .any, .any, .any, .any, .any, .any, .any, .any, .any, .any, .any, .any, .any, .any, .any, .any, .any, .any, .any, .any, .any, .any, .any, .any, .any, .any, .any, .any, .any, .any, .any, .any], [(1048591, ⟨50, [(.int .i64 (.var 9)), (.int .i64 (.var 10)), (.int .i64 (.var 11)), (.int .i64 (.var 12)), (.int .i64 (.var 13)), (.int .i64 (.var 14)), (.int .i64 (.var 15))]⟩), (1048586, ⟨38, [(.int .i64 (.lit 536870912)), (.int .i64 (.lit 1288490188800)), (.int .i64 (.lit 4294967296000)), (.int .i64 (.lit 2147483)), (.int .i64 (.lit 64424)), (.int .i64 (.lit 6442450944)), (.int .i64 (.lit 17179869184)), (.int .i64 (.lit 6)), (.int .i64 (.lit 10)), (.int .i64 (.lit 0)), (.int .i64 (.lit 1)), (.int .i64 (.lit 3))]⟩)]⟩
def lpAE : List IE := [(.var 0), (.var 1), (.var 2), (.var 3), (.var 4), (.var 5), (.var 6), (.var 7), (.var 8), (.lit 1), (.lit 0), (.lit 0), (.lit 7), (.lit 0), (.lit 0), (.lit 0), (.lit 0), (.lit 0), (.lit 0)]
def lpAB : List BE := [(.lit false)]
def lpAT : RT :=
(.node (.cmp .lss (.var 18) (.var 0))
 (.node (.cmp .lss (.lit 536870912) (.ap 20 (.var 18) (.lit 0) (.lit 0)))
 (.node (.cmp .eql (.var 9) (.lit 0))
 (.node (.cmp .eql (.var 28) (.lit 0))
 (.node (.var 0)
 (.node (.cmp .eql (.var 26) (.lit 2))
 (.go [(.var 0), (.var 1), (.var 2), (.var 3), (.var 4), (.var 5), (.var 6), (.var 7), (.var 8), (.var 19), (.var 20), (.var 21), (.var 22), (.var 23), (.var 24), (.var 25), (.pl .add (.var 16) (.pl .mul (.ap 21 (.var 18) (.lit 0) (.lit 0)) (.lit 4294967296))), (.var 17), (.pl .add (.var 18) (.lit 1))] [(.lit false)])
 (.node (.cmp .eql (.var 26) (.lit 0))
 .dead
 (.go [(.var 0), (.var 1), (.var 2), (.var 3), (.var 4), (.var 5), (.var 6), (.var 7), (.var 8), (.var 19), (.var 20), (.var 21), (.var 22), (.var 23), (.var 24), (.var 25), (.pl .add (.var 16) (.pl .mul (.ap 21 (.var 18) (.lit 0) (.lit 0)) (.lit 4294967296))), (.var 17), (.pl .add (.var 18) (.lit 1))] [(.lit true)])))
 (.node (.cmp .eql (.var 26) (.lit 2))
 (.go [(.var 0), (.var 1), (.var 2), (.var 3), (.var 4), (.var 5), (.var 6), (.var 7), (.var 8), (.var 19), (.var 20), (.var 21), (.var 22), (.var 23), (.var 24), (.var 25), (.pl .add (.var 16) (.pl .mul (.ap 21 (.var 18) (.lit 0) (.lit 0)) (.lit 4294967296))), (.pl .add (.var 16) (.pl .mul (.ap 21 (.var 18) (.lit 0) (.lit 0)) (.lit 4294967296))), (.pl .add (.var 18) (.lit 1))] [(.lit false)])
 (.node (.cmp .eql (.var 26) (.lit 0))
 .dead
 (.go [(.var 0), (.var 1), (.var 2), (.var 3), (.var 4), (.var 5), (.var 6), (.var 7), (.var 8), (.var 19), (.var 20), (.var 21), (.var 22), (.var 23), (.var 24), (.var 25), (.pl .add (.var 16) (.pl .mul (.ap 21 (.var 18) (.lit 0) (.lit 0)) (.lit 4294967296))), (.pl .add (.var 16) (.pl .mul (.ap 21 (.var 18) (.lit 0) (.lit 0)) (.lit 4294967296))), (.pl .add (.var 18) (.lit 1))] [(.lit true)]))))
 (.node (.cmp .eql (.var 19) (.var 9))
 (.node (.cmp .eql (.var 20) (.var 10))
 (.node (.cmp .eql (.var 21) (.var 11))
 (.node (.cmp .eql (.var 22) (.var 12))
 (.node (.cmp .eql (.var 23) (.var 13))
 (.node (.cmp .eql (.var 24) (.var 14))
 (.node (.cmp .eql (.var 25) (.var 15))
 (.node (.cmp .eql (.var 26) (.lit 0))
 (.node (.cmp .eql (.var 27) (.lit 0))
 (.node (.cmp .eql (.var 28) (.lit 190))
 (.go [(.var 0), (.var 1), (.var 2), (.var 3), (.var 4), (.var 5), (.var 6), (.var 7), (.var 8), (.var 9), (.var 10), (.var 11), (.var 12), (.var 13), (.var 14), (.var 15), (.pl .add (.var 16) (.pl .mul (.ap 21 (.var 18) (.lit 0) (.lit 0)) (.lit 4294967296))), (.var 17), (.pl .add (.var 18) (.lit 1))] [(.var 0)])
 .dead)
 .dead)
 .dead)
 .dead)
 .dead)
 .dead)
 .dead)
 .dead)
 .dead)
 .dead))
 (.node (.cmp .eql (.var 28) (.lit 0))
 (.node (.var 0)
 (.node (.cmp .eql (.var 26) (.lit 2))
 (.node (.cmp .eql (.var 9) (.lit 1))
 (.go [(.var 0), (.var 1), (.var 2), (.var 3), (.var 4), (.var 5), (.var 6), (.var 7), (.var 8), (.var 19), (.var 20), (.var 21), (.var 22), (.var 23), (.var 24), (.var 25), (.pl .add (.var 16) (.pl .mul (.ap 21 (.var 18) (.lit 0) (.lit 0)) (.lit 4294967296))), (.var 17), (.pl .add (.var 18) (.lit 1))] [(.lit false)])
 (.node (.cmp .lss (.pl .sub (.pl .add (.var 16) (.pl .mul (.ap 21 (.var 18) (.lit 0) (.lit 0)) (.lit 4294967296))) (.var 17)) (.lit 1288490188800))
 .dead
 (.go [(.var 0), (.var 1), (.var 2), (.var 3), (.var 4), (.var 5), (.var 6), (.var 7), (.var 8), (.var 19), (.var 20), (.var 21), (.var 22), (.var 23), (.var 24), (.var 25), (.pl .add (.var 16) (.pl .mul (.ap 21 (.var 18) (.lit 0) (.lit 0)) (.lit 4294967296))), (.var 17), (.pl .add (.var 18) (.lit 1))] [(.lit false)])))
 (.node (.cmp .eql (.var 9) (.lit 1))
 (.node (.cmp .eql (.var 26) (.lit 0))
 .dead
 (.go [(.var 0), (.var 1), (.var 2), (.var 3), (.var 4), (.var 5), (.var 6), (.var 7), (.var 8), (.var 19), (.var 20), (.var 21), (.var 22), (.var 23), (.var 24), (.var 25), (.pl .add (.var 16) (.pl .mul (.ap 21 (.var 18) (.lit 0) (.lit 0)) (.lit 4294967296))), (.var 17), (.pl .add (.var 18) (.lit 1))] [(.lit true)]))
 (.go [(.var 0), (.var 1), (.var 2), (.var 3), (.var 4), (.var 5), (.var 6), (.var 7), (.var 8), (.var 19), (.var 20), (.var 21), (.var 22), (.var 23), (.var 24), (.var 25), (.pl .add (.var 16) (.pl .mul (.ap 21 (.var 18) (.lit 0) (.lit 0)) (.lit 4294967296))), (.var 17), (.pl .add (.var 18) (.lit 1))] [(.lit true)])))
 (.node (.cmp .eql (.var 26) (.lit 2))
 (.node (.cmp .eql (.var 9) (.lit 1))
 (.go [(.var 0), (.var 1), (.var 2), (.var 3), (.var 4), (.var 5), (.var 6), (.var 7), (.var 8), (.var 19), (.var 20), (.var 21), (.var 22), (.var 23), (.var 24), (.var 25), (.pl .add (.var 16) (.pl .mul (.ap 21 (.var 18) (.lit 0) (.lit 0)) (.lit 4294967296))), (.pl .add (.var 16) (.pl .mul (.ap 21 (.var 18) (.lit 0) (.lit 0)) (.lit 4294967296))), (.pl .add (.var 18) (.lit 1))] [(.lit false)])
 (.node (.cmp .lss (.pl .sub (.pl .add (.var 16) (.pl .mul (.ap 21 (.var 18) (.lit 0) (.lit 0)) (.lit 4294967296))) (.pl .add (.var 16) (.pl .mul (.ap 21 (.var 18) (.lit 0) (.lit 0)) (.lit 4294967296)))) (.lit 1288490188800))
 .dead
 (.go [(.var 0), (.var 1), (.var 2), (.var 3), (.var 4), (.var 5), (.var 6), (.var 7), (.var 8), (.var 19), (.var 20), (.var 21), (.var 22), (.var 23), (.var 24), (.var 25), (.pl .add (.var 16) (.pl .mul (.ap 21 (.var 18) (.lit 0) (.lit 0)) (.lit 4294967296))), (.pl .add (.var 16) (.pl .mul (.ap 21 (.var 18) (.lit 0) (.lit 0)) (.lit 4294967296))), (.pl .add (.var 18) (.lit 1))] [(.lit false)])))
 (.node (.cmp .eql (.var 9) (.lit 1))
 (.node (.cmp .eql (.var 26) (.lit 0))
 .dead
 (.go [(.var 0), (.var 1), (.var 2), (.var 3), (.var 4), (.var 5), (.var 6), (.var 7), (.var 8), (.var 19), (.var 20), (.var 21), (.var 22), (.var 23), (.var 24), (.var 25), (.pl .add (.var 16) (.pl .mul (.ap 21 (.var 18) (.lit 0) (.lit 0)) (.lit 4294967296))), (.pl .add (.var 16) (.pl .mul (.ap 21 (.var 18) (.lit 0) (.lit 0)) (.lit 4294967296))), (.pl .add (.var 18) (.lit 1))] [(.lit true)]))
 (.go [(.var 0), (.var 1), (.var 2), (.var 3), (.var 4), (.var 5), (.var 6), (.var 7), (.var 8), (.var 19), (.var 20), (.var 21), (.var 22), (.var 23), (.var 24), (.var 25), (.pl .add (.var 16) (.pl .mul (.ap 21 (.var 18) (.lit 0) (.lit 0)) (.lit 4294967296))), (.pl .add (.var 16) (.pl .mul (.ap 21 (.var 18) (.lit 0) (.lit 0)) (.lit 4294967296))), (.pl .add (.var 18) (.lit 1))] [(.lit true)]))))
 (.node (.cmp .eql (.var 19) (.var 9))
 (.node (.cmp .eql (.var 20) (.var 10))
 (.node (.cmp .eql (.var 21) (.var 11))
 (.node (.cmp .eql (.var 22) (.var 12))
 (.node (.cmp .eql (.var 23) (.var 13))
 (.node (.cmp .eql (.var 24) (.var 14))
 (.node (.cmp .eql (.var 25) (.var 15))
 (.node (.cmp .eql (.var 26) (.lit 0))
 (.node (.cmp .eql (.var 27) (.lit 0))
 (.node (.cmp .eql (.var 9) (.lit 1))
 (.node (.cmp .eql (.var 28) (.lit 190))
 (.go [(.var 0), (.var 1), (.var 2), (.var 3), (.var 4), (.var 5), (.var 6), (.var 7), (.var 8), (.var 9), (.var 10), (.var 11), (.var 12), (.var 13), (.var 14), (.var 15), (.pl .add (.var 16) (.pl .mul (.ap 21 (.var 18) (.lit 0) (.lit 0)) (.lit 4294967296))), (.var 17), (.pl .add (.var 18) (.lit 1))] [(.var 0)])
 .dead)
 (.node (.cmp .eql (.var 28) (.lit 190))
 (.go [(.var 0), (.var 1), (.var 2), (.var 3), (.var 4), (.var 5), (.var 6), (.var 7), (.var 8), (.var 9), (.var 10), (.var 11), (.var 12), (.var 13), (.var 14), (.var 15), (.pl .add (.var 16) (.pl .mul (.ap 21 (.var 18) (.lit 0) (.lit 0)) (.lit 4294967296))), (.var 17), (.pl .add (.var 18) (.lit 1))] [(.var 0)])
 .dead))
 .dead)
 .dead)
 .dead)
 .dead)
 .dead)
 .dead)
 .dead)
 .dead)
 .dead)))
 (.node (.cmp .eql (.var 9) (.lit 0))
 (.node (.cmp .eql (.var 28) (.lit 0))
 (.node (.cmp .lss (.ap 20 (.var 18) (.lit 0) (.lit 0)) (.lit (-536870912)))
 (.node (.var 0)
 (.node (.cmp .eql (.var 26) (.lit 2))
 (.go [(.var 0), (.var 1), (.var 2), (.var 3), (.var 4), (.var 5), (.var 6), (.var 7), (.var 8), (.var 19), (.var 20), (.var 21), (.var 22), (.var 23), (.var 24), (.var 25), (.pl .add (.var 16) (.pl .mul (.ap 21 (.var 18) (.lit 0) (.lit 0)) (.lit 4294967296))), (.var 17), (.pl .add (.var 18) (.lit 1))] [(.lit false)])
 (.node (.cmp .eql (.var 26) (.lit 0))
 .dead
 (.go [(.var 0), (.var 1), (.var 2), (.var 3), (.var 4), (.var 5), (.var 6), (.var 7), (.var 8), (.var 19), (.var 20), (.var 21), (.var 22), (.var 23), (.var 24), (.var 25), (.pl .add (.var 16) (.pl .mul (.ap 21 (.var 18) (.lit 0) (.lit 0)) (.lit 4294967296))), (.var 17), (.pl .add (.var 18) (.lit 1))] [(.cmp .lss (.ap 20 (.var 18) (.lit 0) (.lit 0)) (.lit (-536870912)))])))
 (.node (.cmp .eql (.var 26) (.lit 2))
 (.go [(.var 0), (.var 1), (.var 2), (.var 3), (.var 4), (.var 5), (.var 6), (.var 7), (.var 8), (.var 19), (.var 20), (.var 21), (.var 22), (.var 23), (.var 24), (.var 25), (.pl .add (.var 16) (.pl .mul (.ap 21 (.var 18) (.lit 0) (.lit 0)) (.lit 4294967296))), (.pl .add (.var 16) (.pl .mul (.ap 21 (.var 18) (.lit 0) (.lit 0)) (.lit 4294967296))), (.pl .add (.var 18) (.lit 1))] [(.lit false)])
 (.node (.cmp .eql (.var 26) (.lit 0))
 .dead
 (.go [(.var 0), (.var 1), (.var 2), (.var 3), (.var 4), (.var 5), (.var 6), (.var 7), (.var 8), (.var 19), (.var 20), (.var 21), (.var 22), (.var 23), (.var 24), (.var 25), (.pl .add (.var 16) (.pl .mul (.ap 21 (.var 18) (.lit 0) (.lit 0)) (.lit 4294967296))), (.pl .add (.var 16) (.pl .mul (.ap 21 (.var 18) (.lit 0) (.lit 0)) (.lit 4294967296))), (.pl .add (.var 18) (.lit 1))] [(.cmp .lss (.ap 20 (.var 18) (.lit 0) (.lit 0)) (.lit (-536870912)))]))))
 (.node (.cmp .eql (.var 26) (.lit 2))
 .dead
 (.node (.cmp .eql (.var 26) (.lit 0))
 .dead
 (.go [(.var 0), (.var 1), (.var 2), (.var 3), (.var 4), (.var 5), (.var 6), (.var 7), (.var 8), (.var 19), (.var 20), (.var 21), (.var 22), (.var 23), (.var 24), (.var 25), (.pl .add (.var 16) (.pl .mul (.ap 21 (.var 18) (.lit 0) (.lit 0)) (.lit 4294967296))), (.var 17), (.pl .add (.var 18) (.lit 1))] [(.cmp .lss (.ap 20 (.var 18) (.lit 0) (.lit 0)) (.lit (-536870912)))]))))
 (.node (.cmp .eql (.var 19) (.var 9))
 (.node (.cmp .eql (.var 20) (.var 10))
 (.node (.cmp .eql (.var 21) (.var 11))
 (.node (.cmp .eql (.var 22) (.var 12))
 (.node (.cmp .eql (.var 23) (.var 13))
 (.node (.cmp .eql (.var 24) (.var 14))
 (.node (.cmp .eql (.var 25) (.var 15))
 (.node (.cmp .eql (.var 26) (.lit 0))
 (.node (.cmp .eql (.var 27) (.lit 0))
 (.node (.cmp .eql (.var 28) (.lit 190))
 (.go [(.var 0), (.var 1), (.var 2), (.var 3), (.var 4), (.var 5), (.var 6), (.var 7), (.var 8), (.var 9), (.var 10), (.var 11), (.var 12), (.var 13), (.var 14), (.var 15), (.pl .add (.var 16) (.pl .mul (.ap 21 (.var 18) (.lit 0) (.lit 0)) (.lit 4294967296))), (.var 17), (.pl .add (.var 18) (.lit 1))] [(.var 0)])
 .dead)
 .dead)
 .dead)
 .dead)
 .dead)
 .dead)
 .dead)
 .dead)
 .dead)
 .dead))
 (.node (.cmp .eql (.var 28) (.lit 0))
 (.node (.cmp .lss (.ap 20 (.var 18) (.lit 0) (.lit 0)) (.lit (-536870912)))
 (.node (.var 0)
 (.node (.cmp .eql (.var 26) (.lit 2))
 (.node (.cmp .eql (.var 9) (.lit 1))
 (.go [(.var 0), (.var 1), (.var 2), (.var 3), (.var 4), (.var 5), (.var 6), (.var 7), (.var 8), (.var 19), (.var 20), (.var 21), (.var 22), (.var 23), (.var 24), (.var 25), (.pl .add (.var 16) (.pl .mul (.ap 21 (.var 18) (.lit 0) (.lit 0)) (.lit 4294967296))), (.var 17), (.pl .add (.var 18) (.lit 1))] [(.lit false)])
 (.node (.cmp .lss (.pl .sub (.pl .add (.var 16) (.pl .mul (.ap 21 (.var 18) (.lit 0) (.lit 0)) (.lit 4294967296))) (.var 17)) (.lit 1288490188800))
 .dead
 (.go [(.var 0), (.var 1), (.var 2), (.var 3), (.var 4), (.var 5), (.var 6), (.var 7), (.var 8), (.var 19), (.var 20), (.var 21), (.var 22), (.var 23), (.var 24), (.var 25), (.pl .add (.var 16) (.pl .mul (.ap 21 (.var 18) (.lit 0) (.lit 0)) (.lit 4294967296))), (.var 17), (.pl .add (.var 18) (.lit 1))] [(.lit false)])))
 (.node (.cmp .eql (.var 9) (.lit 1))
 (.node (.cmp .eql (.var 26) (.lit 0))
 .dead
 (.go [(.var 0), (.var 1), (.var 2), (.var 3), (.var 4), (.var 5), (.var 6), (.var 7), (.var 8), (.var 19), (.var 20), (.var 21), (.var 22), (.var 23), (.var 24), (.var 25), (.pl .add (.var 16) (.pl .mul (.ap 21 (.var 18) (.lit 0) (.lit 0)) (.lit 4294967296))), (.var 17), (.pl .add (.var 18) (.lit 1))] [(.cmp .lss (.ap 20 (.var 18) (.lit 0) (.lit 0)) (.lit (-536870912)))]))
 (.go [(.var 0), (.var 1), (.var 2), (.var 3), (.var 4), (.var 5), (.var 6), (.var 7), (.var 8), (.var 19), (.var 20), (.var 21), (.var 22), (.var 23), (.var 24), (.var 25), (.pl .add (.var 16) (.pl .mul (.ap 21 (.var 18) (.lit 0) (.lit 0)) (.lit 4294967296))), (.var 17), (.pl .add (.var 18) (.lit 1))] [(.cmp .lss (.ap 20 (.var 18) (.lit 0) (.lit 0)) (.lit (-536870912)))])))
 (.node (.cmp .eql (.var 26) (.lit 2))
 (.node (.cmp .eql (.var 9) (.lit 1))
 (.go [(.var 0), (.var 1), (.var 2), (.var 3), (.var 4), (.var 5), (.var 6), (.var 7), (.var 8), (.var 19), (.var 20), (.var 21), (.var 22), (.var 23), (.var 24), (.var 25), (.pl .add (.var 16) (.pl .mul (.ap 21 (.var 18) (.lit 0) (.lit 0)) (.lit 4294967296))), (.pl .add (.var 16) (.pl .mul (.ap 21 (.var 18) (.lit 0) (.lit 0)) (.lit 4294967296))), (.pl .add (.var 18) (.lit 1))] [(.lit false)])
 (.node (.cmp .lss (.pl .sub (.pl .add (.var 16) (.pl .mul (.ap 21 (.var 18) (.lit 0) (.lit 0)) (.lit 4294967296))) (.pl .add (.var 16) (.pl .mul (.ap 21 (.var 18) (.lit 0) (.lit 0)) (.lit 4294967296)))) (.lit 1288490188800))
 .dead
 (.go [(.var 0), (.var 1), (.var 2), (.var 3), (.var 4), (.var 5), (.var 6), (.var 7), (.var 8), (.var 19), (.var 20), (.var 21), (.var 22), (.var 23), (.var 24), (.var 25), (.pl .add (.var 16) (.pl .mul (.ap 21 (.var 18) (.lit 0) (.lit 0)) (.lit 4294967296))), (.pl .add (.var 16) (.pl .mul (.ap 21 (.var 18) (.lit 0) (.lit 0)) (.lit 4294967296))), (.pl .add (.var 18) (.lit 1))] [(.lit false)])))
 (.node (.cmp .eql (.var 9) (.lit 1))
 (.node (.cmp .eql (.var 26) (.lit 0))
 .dead
 (.go [(.var 0), (.var 1), (.var 2), (.var 3), (.var 4), (.var 5), (.var 6), (.var 7), (.var 8), (.var 19), (.var 20), (.var 21), (.var 22), (.var 23), (.var 24), (.var 25), (.pl .add (.var 16) (.pl .mul (.ap 21 (.var 18) (.lit 0) (.lit 0)) (.lit 4294967296))), (.pl .add (.var 16) (.pl .mul (.ap 21 (.var 18) (.lit 0) (.lit 0)) (.lit 4294967296))), (.pl .add (.var 18) (.lit 1))] [(.cmp .lss (.ap 20 (.var 18) (.lit 0) (.lit 0)) (.lit (-536870912)))]))
 (.go [(.var 0), (.var 1), (.var 2), (.var 3), (.var 4), (.var 5), (.var 6), (.var 7), (.var 8), (.var 19), (.var 20), (.var 21), (.var 22), (.var 23), (.var 24), (.var 25), (.pl .add (.var 16) (.pl .mul (.ap 21 (.var 18) (.lit 0) (.lit 0)) (.lit 4294967296))), (.pl .add (.var 16) (.pl .mul (.ap 21 (.var 18) (.lit 0) (.lit 0)) (.lit 4294967296))), (.pl .add (.var 18) (.lit 1))] [(.cmp .lss (.ap 20 (.var 18) (.lit 0) (.lit 0)) (.lit (-536870912)))]))))
 (.node (.cmp .eql (.var 26) (.lit 2))
 .dead
 (.node (.cmp .eql (.var 9) (.lit 1))
 (.node (.cmp .eql (.var 26) (.lit 0))
 .dead
 (.go [(.var 0), (.var 1), (.var 2), (.var 3), (.var 4), (.var 5), (.var 6), (.var 7), (.var 8), (.var 19), (.var 20), (.var 21), (.var 22), (.var 23), (.var 24), (.var 25), (.pl .add (.var 16) (.pl .mul (.ap 21 (.var 18) (.lit 0) (.lit 0)) (.lit 4294967296))), (.var 17), (.pl .add (.var 18) (.lit 1))] [(.cmp .lss (.ap 20 (.var 18) (.lit 0) (.lit 0)) (.lit (-536870912)))]))
 (.go [(.var 0), (.var 1), (.var 2), (.var 3), (.var 4), (.var 5), (.var 6), (.var 7), (.var 8), (.var 19), (.var 20), (.var 21), (.var 22), (.var 23), (.var 24), (.var 25), (.pl .add (.var 16) (.pl .mul (.ap 21 (.var 18) (.lit 0) (.lit 0)) (.lit 4294967296))), (.var 17), (.pl .add (.var 18) (.lit 1))] [(.cmp .lss (.ap 20 (.var 18) (.lit 0) (.lit 0)) (.lit (-536870912)))]))))
 (.node (.cmp .eql (.var 19) (.var 9))
 (.node (.cmp .eql (.var 20) (.var 10))
 (.node (.cmp .eql (.var 21) (.var 11))
 (.node (.cmp .eql (.var 22) (.var 12))
 (.node (.cmp .eql (.var 23) (.var 13))
 (.node (.cmp .eql (.var 24) (.var 14))
 (.node (.cmp .eql (.var 25) (.var 15))
 (.node (.cmp .eql (.var 26) (.lit 0))
 (.node (.cmp .eql (.var 27) (.lit 0))
 (.node (.cmp .eql (.var 9) (.lit 1))
 (.node (.cmp .eql (.var 28) (.lit 190))
 (.go [(.var 0), (.var 1), (.var 2), (.var 3), (.var 4), (.var 5), (.var 6), (.var 7), (.var 8), (.var 9), (.var 10), (.var 11), (.var 12), (.var 13), (.var 14), (.var 15), (.pl .add (.var 16) (.pl .mul (.ap 21 (.var 18) (.lit 0) (.lit 0)) (.lit 4294967296))), (.var 17), (.pl .add (.var 18) (.lit 1))] [(.var 0)])
 .dead)
 (.node (.cmp .eql (.var 28) (.lit 190))
 (.go [(.var 0), (.var 1), (.var 2), (.var 3), (.var 4), (.var 5), (.var 6), (.var 7), (.var 8), (.var 9), (.var 10), (.var 11), (.var 12), (.var 13), (.var 14), (.var 15), (.pl .add (.var 16) (.pl .mul (.ap 21 (.var 18) (.lit 0) (.lit 0)) (.lit 4294967296))), (.var 17), (.pl .add (.var 18) (.lit 1))] [(.var 0)])
 .dead))
 .dead)
 .dead)
 .dead)
 .dead)
 .dead)
 .dead)
 .dead)
 .dead)
 .dead))))
 (.stop [(.var 0), (.var 1), (.var 9), (.var 10), (.var 11), (.var 12), (.var 13), (.var 14), (.var 15)] []))
def lpBL : LoopSum := ⟨[(.xs 0), (.bool (.lit false)), (.int .u8 (.var 1)), U0, U0, U0, (.bool (.lit false)), (.ptr 1048586 0), (.ptr 1048591 0), (.int .i64 (.lit 0)), (.int .i64 (.lit 0)), (.bool (.lit false)), (.int .i64 (.lit 0)), U0, U0, U0, U0, U0, U0, (.xs 0), (.int .i64 (.var 0)), (.bool (.cmp .gtr (.var 0) (.lit 300))), (.bool (.cmp .gtr (.var 0) (.lit 300))), (.bool (.lit true)), (.bool (.lit false)), (.bool (.lit false)), U0, (.agg [(.int .i64 (.lit 536870912)), (.int .i64 (.lit 1288490188800)), (.int .i64 (.lit 4294967296000)), (.int .i64 (.lit 2147483)), (.int .i64 (.lit 64424)), (.int .i64 (.lit 6442450944)), (.int .i64 (.lit 17179869184)), (.int .i64 (.lit 6)), (.int .i64 (.lit 10)), (.int .i64 (.lit 0)), (.int .i64 (.lit 1)), (.int .i64 (.lit 3))]), (.agg [(.int .i64 (.lit 536870912)), (.int .i64 (.lit 1288490188800)), (.int .i64 (.lit 4294967296000)), (.int .i64 (.lit 2147483)), (.int .i64 (.lit 64424)), (.int .i64 (.lit 6442450944)), (.int .i64 (.lit 17179869184)), (.int .i64 (.lit 6)), (.int .i64 (.lit 10)), (.int .i64 (.lit 0)), (.int .i64 (.lit 1)), (.int .i64 (.lit 3))]), (.bool (.lit false)), (.agg [(.int .i64 (.lit 0)), (.int .i64 (.lit 0)), (.int .i64 (.lit 0)), (.int .i64 (.lit 0)), (.int .i64 (.lit 0)), (.int .i64 (.lit 0)), (.int .i64 (.lit 0))]), U0, U0, U0, U0, U0, U0, U0, U0, U0, U0, U0, U0, U0, U0, U0, U0, U0, U0, U0, U0, U0, U0, U0, U0, U0, U0, U0, U0, U0, U0, U0, U0, U0, U0, U0, U0, U0, U0, U0, U0, U0, U0, U0, U0, U0, U0, U0, U0, U0, U0, U0, U0, U0, U0, U0, U0, U0, U0, U0, U0, U0, U0, U0, U0, U0, U0, U0, U0, U0, U0, U0, U0, U0, U0, U0, U0, U0, U0, U0, U0, U0, U0, U0, U0, U0, U0, U0, U0, U0, U0, U0, U0, U0, U0, U0, U0, U0, U0, U0, U0, U0, U0, U0, U0, U0, U0, U0, U0, U0, U0, U0, U0, U0, U0, U0, U0, U0], [(1048591, ⟨50, [(.int .i64 (.lit 0)), (.int .i64 (.lit 0)), (.int .i64 (.lit 0)), (.int .i64 (.lit 0)), (.int .i64 (.lit 0)), (.int .i64 (.lit 0)), (.int .i64 (.lit 0))]⟩), (1048586, ⟨38, [(.int .i64 (.lit 536870912)), (.int .i64 (.lit 1288490188800)), (.int .i64 (.lit 4294967296000)), (.int .i64 (.lit 2147483)), (.int .i64 (.lit 64424)), (.int .i64 (.lit 6442450944)), (.int .i64 (.lit 17179869184)), (.int .i64 (.lit 6)), (.int .i64 (.lit 10)), (.int .i64 (.lit 0)), (.int .i64 (.lit 1)), (.int .i64 (.lit 3))]⟩)],
  (.exit 0), [(.xs 0), (.bool (.lit false)), (.int .u8 (.var 1)), U0, U0, U0, (.bool (.lit false)), (.ptr 1048586 0), (.ptr 1048591 0), .any, .any, .any, .any, .any, .any, .any, .any, .any, .any, (.xs 0), (.int .i64 (.var 0)), (.bool (.cmp .gtr (.var 0) (.lit 300))), (.bool (.cmp .gtr (.var 0) (.lit 300))), (.bool (.lit true)), (.bool (.lit false)), (.bool (.lit false)), U0, (.agg [(.int .i64 (.lit 536870912)), (.int .i64 (.lit 1288490188800)), (.int .i64 (.lit 4294967296000)), (.int .i64 (.lit 2147483)), (.int .i64 (.lit 64424)), (.int .i64 (.lit 6442450944)), (.int .i64 (.lit 17179869184)), (.int .i64 (.lit 6)), (.int .i64 (.lit 10)), (.int .i64 (.lit 0)), (.int .i64 (.lit 1)), (.int .i64 (.lit 3))]), (.agg [(.int .i64 (.lit 536870912)), (.int .i64 (.lit 1288490188800)), (.int .i64 (.lit 4294967296000)), (.int .i64 (.lit 2147483)), (.int .i64 (.lit 64424)), (.int .i64 (.lit 6442450944)), (.int .i64 (.lit 17179869184)), (.int .i64 (.lit 6)), (.int .i64 (.lit 10)), (.int .i64 (.lit 0)), (.int .i64 (.lit 1)), (.int .i64 (.lit 3))]), (.bool (.lit false)), (.agg [(.int .i64 (.lit 0)), (.int .i64 (.lit 0)), (.int .i64 (.lit 0)), (.int .i64 (.lit 0)), (.int .i64 (.lit 0)), (.int .i64 (.lit 0)), (.int .i64 (.lit 0))]), .any, .any, .any, .any, .any, .any, .any, .any, .any, .any, .any, .any, .any, .any, .any, .any, .any, .any, .any, .any, .any, .any, .any, .any, .any, .any, .any, .any, .any, .any, .any, .any, .any, .any, .any, .any, .any, .any, .any, .any, .any, .any, .any, .any, .any, .any, .any, .any, .any, .any, .any, .any, .any, .any, .any, .any, .any, .any, .any, .any, .any, .any, .any, .any, .any, .any, .any, .any, .any, .any, .any, .any, .any, .any, U0, U0, .any, .any, .any, .any, .any, .any, .any, .any, .any, .any, .any, .any, .any, .any, .any, .any, .any, .any, .any, .any, .any, .any, .any, .any, .any, .any, .any, .any, .any, .any, .any, .any, .any, .any, .any, .any, .any, .any, .any, .any, .any], [(1048591, ⟨50, [(.int .i64 (.var 2)), (.int .i64 (.var 3)), (.int .i64 (.var 4)), (.int .i64 (.var 5)), (.int .i64 (.var 6)), (.int .i64 (.var 7)), (.int .i64 (.var 8))]⟩), (1048586, ⟨38, [(.int .i64 (.lit 536870912)), (.int .i64 (.lit 1288490188800)), (.int .i64 (.lit 4294967296000)), (.int .i64 (.lit 2147483)), (.int .i64 (.lit 64424)), (.int .i64 (.lit 6442450944)), (.int .i64 (.lit 17179869184)), (.int .i64 (.lit 6)), (.int .i64 (.lit 10)), (.int .i64 (.lit 0)), (.int .i64 (.lit 1)), (.int .i64 (.lit 3))]⟩)]⟩
def lpBH : St := ⟨Tm.ofL [(.xs 0), (.bool (.lit false)), (.int .u8 (.var 1)), U0, U0, U0, (.bool (.lit false)), (.ptr 1048586 0), (.ptr 1048591 0), (.int .i64 (.var 16)), (.int .i64 (.var 17)), (.bool (.var 0)), (.int .i64 (.var 18)), .any, .any, .any, .any, .any, .any, (.xs 0), (.int .i64 (.var 0)), (.bool (.cmp .gtr (.var 0) (.lit 300))), (.bool (.cmp .gtr (.var 0) (.lit 300))), (.bool (.lit true)), (.bool (.lit false)), (.bool (.lit false)), U0, (.agg [(.int .i64 (.lit 536870912)), (.int .i64 (.lit 1288490188800)), (.int .i64 (.lit 4294967296000)), (.int .i64 (.lit 2147483)), (.int .i64 (.lit 64424)), (.int .i64 (.lit 6442450944)), (.int .i64 (.lit 17179869184)), (.int .i64 (.lit 6)), (.int .i64 (.lit 10)), (.int .i64 (.lit 0)), (.int .i64 (.lit 1)), (.int .i64 (.lit 3))]), (.agg [(.int .i64 (.lit 536870912)), (.int .i64 (.lit 1288490188800)), (.int .i64 (.lit 4294967296000)), (.int .i64 (.lit 2147483)), (.int .i64 (.lit 64424)), (.int .i64 (.lit 6442450944)), (.int .i64 (.lit 17179869184)), (.int .i64 (.lit 6)), (.int .i64 (.lit 10)), (.int .i64 (.lit 0)), (.int .i64 (.lit 1)), (.int .i64 (.lit 3))]), (.bool (.lit false)), (.agg [(.int .i64 (.lit 0)), (.int .i64 (.lit 0)), (.int .i64 (.lit 0)), (.int .i64 (.lit 0)), (.int .i64 (.lit 0)), (.int .i64 (.lit 0)), (.int .i64 (.lit 0))]), .any, .any, .any, .any, .any, .any, .any, .any, .any, .any, .any, .any, .any, .any, .any, .any, .any, .any, .any, .any, .any, .any, .any, .any, .any, .any, .any, .any, .any, .any, .any, .any, .any, .any, .any, .any, .any, .any, .any, .any, .any, .any, .any, .any, .any, .any, .any, .any, .any, .any, .any, .any, .any, .any, .any, .any, .any, .any, .any, .any, .any, .any, .any, .any, .any, .any, .any, .any, .any, .any, .any, .any, .any, .any, U0, U0, .any, .any, .any, .any, .any, .any, .any, .any, .any, .any, .any, .any, .any, .any, .any, .any, .any, .any, .any, .any, .any, .any, .any, .any, .any, .any, .any, .any, .any, .any, .any, .any, .any, .any, .any, .any, .any, .any, .any, .any, .any], [(1048591, ⟨50, [(.int .i64 (.var 9)), (.int .i64 (.var 10)), (.int .i64 (.var 11)), (.int .i64 (.var 12)), (.int .i64 (.var 13)), (.int .i64 (.var 14)), (.int .i64 (.var 15))]⟩), (1048586, ⟨38, [(.int .i64 (.lit 536870912)), (.int .i64 (.lit 1288490188800)), (.int .i64 (.lit 4294967296000)), (.int .i64 (.lit 2147483)), (.int .i64 (.lit 64424)), (.int .i64 (.lit 6442450944)), (.int .i64 (.lit 17179869184)), (.int .i64 (.lit 6)), (.int .i64 (.lit 10)), (.int .i64 (.lit 0)), (.int .i64 (.lit 1)), (.int .i64 (.lit 3))]⟩)]⟩
def lpBE : List IE := [(.var 0), (.var 1), (.var 2), (.var 3), (.var 4), (.var 5), (.var 6), (.var 7), (.var 8), (.lit 0), (.lit 0), (.lit 0), (.lit 0), (.lit 0), (.lit 0), (.lit 0), (.lit 0), (.lit 0), (.lit 0)]
def lpBB : List BE := [(.lit false)]
def lpBT : RT :=
(.node (.cmp .lss (.var 18) (.var 0))
 (.node (.cmp .lss (.lit 536870912) (.ap 20 (.var 18) (.lit 0) (.lit 0)))
 (.node (.cmp .eql (.var 9) (.lit 0))
 (.node (.cmp .eql (.var 28) (.lit 0))
 (.node (.var 0)
 (.node (.cmp .eql (.var 26) (.lit 2))
 (.go [(.var 0), (.var 1), (.var 2), (.var 3), (.var 4), (.var 5), (.var 6), (.var 7), (.var 8), (.var 19), (.var 20), (.var 21), (.var 22), (.var 23), (.var 24), (.var 25), (.pl .add (.var 16) (.pl .mul (.ap 21 (.var 18) (.lit 0) (.lit 0)) (.lit 4294967296))), (.var 17), (.pl .add (.var 18) (.lit 1))] [(.lit false)])
 (.node (.cmp .eql (.var 26) (.lit 0))
 .dead
 (.go [(.var 0), (.var 1), (.var 2), (.var 3), (.var 4), (.var 5), (.var 6), (.var 7), (.var 8), (.var 19), (.var 20), (.var 21), (.var 22), (.var 23), (.var 24), (.var 25), (.pl .add (.var 16) (.pl .mul (.ap 21 (.var 18) (.lit 0) (.lit 0)) (.lit 4294967296))), (.var 17), (.pl .add (.var 18) (.lit 1))] [(.lit true)])))
 (.node (.cmp .eql (.var 26) (.lit 2))
 (.go [(.var 0), (.var 1), (.var 2), (.var 3), (.var 4), (.var 5), (.var 6), (.var 7), (.var 8), (.var 19), (.var 20), (.var 21), (.var 22), (.var 23), (.var 24), (.var 25), (.pl .add (.var 16) (.pl .mul (.ap 21 (.var 18) (.lit 0) (.lit 0)) (.lit 4294967296))), (.pl .add (.var 16) (.pl .mul (.ap 21 (.var 18) (.lit 0) (.lit 0)) (.lit 4294967296))), (.pl .add (.var 18) (.lit 1))] [(.lit false)])
 (.node (.cmp .eql (.var 26) (.lit 0))
 .dead
 (.go [(.var 0), (.var 1), (.var 2), (.var 3), (.var 4), (.var 5), (.var 6), (.var 7), (.var 8), (.var 19), (.var 20), (.var 21), (.var 22), (.var 23), (.var 24), (.var 25), (.pl .add (.var 16) (.pl .mul (.ap 21 (.var 18) (.lit 0) (.lit 0)) (.lit 4294967296))), (.pl .add (.var 16) (.pl .mul (.ap 21 (.var 18) (.lit 0) (.lit 0)) (.lit 4294967296))), (.pl .add (.var 18) (.lit 1))] [(.lit true)]))))
 (.node (.cmp .eql (.var 19) (.var 9))
 (.node (.cmp .eql (.var 20) (.var 10))
 (.node (.cmp .eql (.var 21) (.var 11))
 (.node (.cmp .eql (.var 22) (.var 12))
 (.node (.cmp .eql (.var 23) (.var 13))
 (.node (.cmp .eql (.var 24) (.var 14))
 (.node (.cmp .eql (.var 25) (.var 15))
 (.node (.cmp .eql (.var 26) (.lit 0))
 (.node (.cmp .eql (.var 27) (.lit 0))
 .dead
 .dead)
 .dead)
 .dead)
 .dead)
 .dead)
 .dead)
 .dead)
 .dead)
 .dead))
 (.node (.cmp .eql (.var 28) (.lit 0))
 (.node (.var 0)
 (.node (.cmp .eql (.var 26) (.lit 2))
 (.node (.cmp .eql (.var 9) (.lit 1))
 (.go [(.var 0), (.var 1), (.var 2), (.var 3), (.var 4), (.var 5), (.var 6), (.var 7), (.var 8), (.var 19), (.var 20), (.var 21), (.var 22), (.var 23), (.var 24), (.var 25), (.pl .add (.var 16) (.pl .mul (.ap 21 (.var 18) (.lit 0) (.lit 0)) (.lit 4294967296))), (.var 17), (.pl .add (.var 18) (.lit 1))] [(.lit false)])
 (.node (.cmp .lss (.pl .sub (.pl .add (.var 16) (.pl .mul (.ap 21 (.var 18) (.lit 0) (.lit 0)) (.lit 4294967296))) (.var 17)) (.lit 1288490188800))
 .dead
 (.go [(.var 0), (.var 1), (.var 2), (.var 3), (.var 4), (.var 5), (.var 6), (.var 7), (.var 8), (.var 19), (.var 20), (.var 21), (.var 22), (.var 23), (.var 24), (.var 25), (.pl .add (.var 16) (.pl .mul (.ap 21 (.var 18) (.lit 0) (.lit 0)) (.lit 4294967296))), (.var 17), (.pl .add (.var 18) (.lit 1))] [(.lit false)])))
 (.node (.cmp .eql (.var 9) (.lit 1))
 (.node (.cmp .eql (.var 26) (.lit 0))
 .dead
 (.go [(.var 0), (.var 1), (.var 2), (.var 3), (.var 4), (.var 5), (.var 6), (.var 7), (.var 8), (.var 19), (.var 20), (.var 21), (.var 22), (.var 23), (.var 24), (.var 25), (.pl .add (.var 16) (.pl .mul (.ap 21 (.var 18) (.lit 0) (.lit 0)) (.lit 4294967296))), (.var 17), (.pl .add (.var 18) (.lit 1))] [(.lit true)]))
 (.go [(.var 0), (.var 1), (.var 2), (.var 3), (.var 4), (.var 5), (.var 6), (.var 7), (.var 8), (.var 19), (.var 20), (.var 21), (.var 22), (.var 23), (.var 24), (.var 25), (.pl .add (.var 16) (.pl .mul (.ap 21 (.var 18) (.lit 0) (.lit 0)) (.lit 4294967296))), (.var 17), (.pl .add (.var 18) (.lit 1))] [(.lit true)])))
 (.node (.cmp .eql (.var 26) (.lit 2))
 (.node (.cmp .eql (.var 9) (.lit 1))
 (.go [(.var 0), (.var 1), (.var 2), (.var 3), (.var 4), (.var 5), (.var 6), (.var 7), (.var 8), (.var 19), (.var 20), (.var 21), (.var 22), (.var 23), (.var 24), (.var 25), (.pl .add (.var 16) (.pl .mul (.ap 21 (.var 18) (.lit 0) (.lit 0)) (.lit 4294967296))), (.pl .add (.var 16) (.pl .mul (.ap 21 (.var 18) (.lit 0) (.lit 0)) (.lit 4294967296))), (.pl .add (.var 18) (.lit 1))] [(.lit false)])
 (.node (.cmp .lss (.pl .sub (.pl .add (.var 16) (.pl .mul (.ap 21 (.var 18) (.lit 0) (.lit 0)) (.lit 4294967296))) (.pl .add (.var 16) (.pl .mul (.ap 21 (.var 18) (.lit 0) (.lit 0)) (.lit 4294967296)))) (.lit 1288490188800))
 .dead
 (.go [(.var 0), (.var 1), (.var 2), (.var 3), (.var 4), (.var 5), (.var 6), (.var 7), (.var 8), (.var 19), (.var 20), (.var 21), (.var 22), (.var 23), (.var 24), (.var 25), (.pl .add (.var 16) (.pl .mul (.ap 21 (.var 18) (.lit 0) (.lit 0)) (.lit 4294967296))), (.pl .add (.var 16) (.pl .mul (.ap 21 (.var 18) (.lit 0) (.lit 0)) (.lit 4294967296))), (.pl .add (.var 18) (.lit 1))] [(.lit false)])))
 (.node (.cmp .eql (.var 9) (.lit 1))
 (.node (.cmp .eql (.var 26) (.lit 0))
 .dead
 (.go [(.var 0), (.var 1), (.var 2), (.var 3), (.var 4), (.var 5), (.var 6), (.var 7), (.var 8), (.var 19), (.var 20), (.var 21), (.var 22), (.var 23), (.var 24), (.var 25), (.pl .add (.var 16) (.pl .mul (.ap 21 (.var 18) (.lit 0) (.lit 0)) (.lit 4294967296))), (.pl .add (.var 16) (.pl .mul (.ap 21 (.var 18) (.lit 0) (.lit 0)) (.lit 4294967296))), (.pl .add (.var 18) (.lit 1))] [(.lit true)]))
 (.go [(.var 0), (.var 1), (.var 2), (.var 3), (.var 4), (.var 5), (.var 6), (.var 7), (.var 8), (.var 19), (.var 20), (.var 21), (.var 22), (.var 23), (.var 24), (.var 25), (.pl .add (.var 16) (.pl .mul (.ap 21 (.var 18) (.lit 0) (.lit 0)) (.lit 4294967296))), (.pl .add (.var 16) (.pl .mul (.ap 21 (.var 18) (.lit 0) (.lit 0)) (.lit 4294967296))), (.pl .add (.var 18) (.lit 1))] [(.lit true)]))))
 (.node (.cmp .eql (.var 19) (.var 9))
 (.node (.cmp .eql (.var 20) (.var 10))
 (.node (.cmp .eql (.var 21) (.var 11))
 (.node (.cmp .eql (.var 22) (.var 12))
 (.node (.cmp .eql (.var 23) (.var 13))
 (.node (.cmp .eql (.var 24) (.var 14))
 (.node (.cmp .eql (.var 25) (.var 15))
 (.node (.cmp .eql (.var 26) (.lit 0))
 (.node (.cmp .eql (.var 27) (.lit 0))
 (.node (.cmp .eql (.var 9) (.lit 1))
 .dead
 (.node (.cmp .eql (.var 28) (.lit 190))
 (.go [(.var 0), (.var 1), (.var 2), (.var 3), (.var 4), (.var 5), (.var 6), (.var 7), (.var 8), (.var 9), (.var 10), (.var 11), (.var 12), (.var 13), (.var 14), (.var 15), (.pl .add (.var 16) (.pl .mul (.ap 21 (.var 18) (.lit 0) (.lit 0)) (.lit 4294967296))), (.var 17), (.pl .add (.var 18) (.lit 1))] [(.var 0)])
 .dead))
 .dead)
 .dead)
 .dead)
 .dead)
 .dead)
 .dead)
 .dead)
 .dead)
 .dead)))
 (.node (.cmp .eql (.var 9) (.lit 0))
 (.node (.cmp .eql (.var 28) (.lit 0))
 (.node (.cmp .lss (.ap 20 (.var 18) (.lit 0) (.lit 0)) (.lit (-536870912)))
 (.node (.var 0)
 (.node (.cmp .eql (.var 26) (.lit 2))
 (.go [(.var 0), (.var 1), (.var 2), (.var 3), (.var 4), (.var 5), (.var 6), (.var 7), (.var 8), (.var 19), (.var 20), (.var 21), (.var 22), (.var 23), (.var 24), (.var 25), (.pl .add (.var 16) (.pl .mul (.ap 21 (.var 18) (.lit 0) (.lit 0)) (.lit 4294967296))), (.var 17), (.pl .add (.var 18) (.lit 1))] [(.lit false)])
 (.node (.cmp .eql (.var 26) (.lit 0))
 .dead
 (.go [(.var 0), (.var 1), (.var 2), (.var 3), (.var 4), (.var 5), (.var 6), (.var 7), (.var 8), (.var 19), (.var 20), (.var 21), (.var 22), (.var 23), (.var 24), (.var 25), (.pl .add (.var 16) (.pl .mul (.ap 21 (.var 18) (.lit 0) (.lit 0)) (.lit 4294967296))), (.var 17), (.pl .add (.var 18) (.lit 1))] [(.cmp .lss (.ap 20 (.var 18) (.lit 0) (.lit 0)) (.lit (-536870912)))])))
 (.node (.cmp .eql (.var 26) (.lit 2))
 (.go [(.var 0), (.var 1), (.var 2), (.var 3), (.var 4), (.var 5), (.var 6), (.var 7), (.var 8), (.var 19), (.var 20), (.var 21), (.var 22), (.var 23), (.var 24), (.var 25), (.pl .add (.var 16) (.pl .mul (.ap 21 (.var 18) (.lit 0) (.lit 0)) (.lit 4294967296))), (.pl .add (.var 16) (.pl .mul (.ap 21 (.var 18) (.lit 0) (.lit 0)) (.lit 4294967296))), (.pl .add (.var 18) (.lit 1))] [(.lit false)])
 (.node (.cmp .eql (.var 26) (.lit 0))
 .dead
 (.go [(.var 0), (.var 1), (.var 2), (.var 3), (.var 4), (.var 5), (.var 6), (.var 7), (.var 8), (.var 19), (.var 20), (.var 21), (.var 22), (.var 23), (.var 24), (.var 25), (.pl .add (.var 16) (.pl .mul (.ap 21 (.var 18) (.lit 0) (.lit 0)) (.lit 4294967296))), (.pl .add (.var 16) (.pl .mul (.ap 21 (.var 18) (.lit 0) (.lit 0)) (.lit 4294967296))), (.pl .add (.var 18) (.lit 1))] [(.cmp .lss (.ap 20 (.var 18) (.lit 0) (.lit 0)) (.lit (-536870912)))]))))
 (.node (.cmp .eql (.var 26) (.lit 2))
 .dead
 (.node (.cmp .eql (.var 26) (.lit 0))
 .dead
 (.go [(.var 0), (.var 1), (.var 2), (.var 3), (.var 4), (.var 5), (.var 6), (.var 7), (.var 8), (.var 19), (.var 20), (.var 21), (.var 22), (.var 23), (.var 24), (.var 25), (.pl .add (.var 16) (.pl .mul (.ap 21 (.var 18) (.lit 0) (.lit 0)) (.lit 4294967296))), (.var 17), (.pl .add (.var 18) (.lit 1))] [(.cmp .lss (.ap 20 (.var 18) (.lit 0) (.lit 0)) (.lit (-536870912)))]))))
 (.node (.cmp .eql (.var 19) (.var 9))
 (.node (.cmp .eql (.var 20) (.var 10))
 (.node (.cmp .eql (.var 21) (.var 11))
 (.node (.cmp .eql (.var 22) (.var 12))
 (.node (.cmp .eql (.var 23) (.var 13))
 (.node (.cmp .eql (.var 24) (.var 14))
 (.node (.cmp .eql (.var 25) (.var 15))
 (.node (.cmp .eql (.var 26) (.lit 0))
 (.node (.cmp .eql (.var 27) (.lit 0))
 .dead
 .dead)
 .dead)
 .dead)
 .dead)
 .dead)
 .dead)
 .dead)
 .dead)
 .dead))
 (.node (.cmp .eql (.var 28) (.lit 0))
 (.node (.cmp .lss (.ap 20 (.var 18) (.lit 0) (.lit 0)) (.lit (-536870912)))
 (.node (.var 0)
 (.node (.cmp .eql (.var 26) (.lit 2))
 (.node (.cmp .eql (.var 9) (.lit 1))
 (.go [(.var 0), (.var 1), (.var 2), (.var 3), (.var 4), (.var 5), (.var 6), (.var 7), (.var 8), (.var 19), (.var 20), (.var 21), (.var 22), (.var 23), (.var 24), (.var 25), (.pl .add (.var 16) (.pl .mul (.ap 21 (.var 18) (.lit 0) (.lit 0)) (.lit 4294967296))), (.var 17), (.pl .add (.var 18) (.lit 1))] [(.lit false)])
 (.node (.cmp .lss (.pl .sub (.pl .add (.var 16) (.pl .mul (.ap 21 (.var 18) (.lit 0) (.lit 0)) (.lit 4294967296))) (.var 17)) (.lit 1288490188800))
 .dead
 (.go [(.var 0), (.var 1), (.var 2), (.var 3), (.var 4), (.var 5), (.var 6), (.var 7), (.var 8), (.var 19), (.var 20), (.var 21), (.var 22), (.var 23), (.var 24), (.var 25), (.pl .add (.var 16) (.pl .mul (.ap 21 (.var 18) (.lit 0) (.lit 0)) (.lit 4294967296))), (.var 17), (.pl .add (.var 18) (.lit 1))] [(.lit false)])))
 (.node (.cmp .eql (.var 9) (.lit 1))
 (.node (.cmp .eql (.var 26) (.lit 0))
 .dead
 (.go [(.var 0), (.var 1), (.var 2), (.var 3), (.var 4), (.var 5), (.var 6), (.var 7), (.var 8), (.var 19), (.var 20), (.var 21), (.var 22), (.var 23), (.var 24), (.var 25), (.pl .add (.var 16) (.pl .mul (.ap 21 (.var 18) (.lit 0) (.lit 0)) (.lit 4294967296))), (.var 17), (.pl .add (.var 18) (.lit 1))] [(.cmp .lss (.ap 20 (.var 18) (.lit 0) (.lit 0)) (.lit (-536870912)))]))
 (.go [(.var 0), (.var 1), (.var 2), (.var 3), (.var 4), (.var 5), (.var 6), (.var 7), (.var 8), (.var 19), (.var 20), (.var 21), (.var 22), (.var 23), (.var 24), (.var 25), (.pl .add (.var 16) (.pl .mul (.ap 21 (.var 18) (.lit 0) (.lit 0)) (.lit 4294967296))), (.var 17), (.pl .add (.var 18) (.lit 1))] [(.cmp .lss (.ap 20 (.var 18) (.lit 0) (.lit 0)) (.lit (-536870912)))])))
 (.node (.cmp .eql (.var 26) (.lit 2))
 (.node (.cmp .eql (.var 9) (.lit 1))
 (.go [(.var 0), (.var 1), (.var 2), (.var 3), (.var 4), (.var 5), (.var 6), (.var 7), (.var 8), (.var 19), (.var 20), (.var 21), (.var 22), (.var 23), (.var 24), (.var 25), (.pl .add (.var 16) (.pl .mul (.ap 21 (.var 18) (.lit 0) (.lit 0)) (.lit 4294967296))), (.pl .add (.var 16) (.pl .mul (.ap 21 (.var 18) (.lit 0) (.lit 0)) (.lit 4294967296))), (.pl .add (.var 18) (.lit 1))] [(.lit false)])
 (.node (.cmp .lss (.pl .sub (.pl .add (.var 16) (.pl .mul (.ap 21 (.var 18) (.lit 0) (.lit 0)) (.lit 4294967296))) (.pl .add (.var 16) (.pl .mul (.ap 21 (.var 18) (.lit 0) (.lit 0)) (.lit 4294967296)))) (.lit 1288490188800))
 .dead
 (.go [(.var 0), (.var 1), (.var 2), (.var 3), (.var 4), (.var 5), (.var 6), (.var 7), (.var 8), (.var 19), (.var 20), (.var 21), (.var 22), (.var 23), (.var 24), (.var 25), (.pl .add (.var 16) (.pl .mul (.ap 21 (.var 18) (.lit 0) (.lit 0)) (.lit 4294967296))), (.pl .add (.var 16) (.pl .mul (.ap 21 (.var 18) (.lit 0) (.lit 0)) (.lit 4294967296))), (.pl .add (.var 18) (.lit 1))] [(.lit false)])))
 (.node (.cmp .eql (.var 9) (.lit 1))
 (.node (.cmp .eql (.var 26) (.lit 0))
 .dead
 (.go [(.var 0), (.var 1), (.var 2), (.var 3), (.var 4), (.var 5), (.var 6), (.var 7), (.var 8), (.var 19), (.var 20), (.var 21), (.var 22), (.var 23), (.var 24), (.var 25), (.pl .add (.var 16) (.pl .mul (.ap 21 (.var 18) (.lit 0) (.lit 0)) (.lit 4294967296))), (.pl .add (.var 16) (.pl .mul (.ap 21 (.var 18) (.lit 0) (.lit 0)) (.lit 4294967296))), (.pl .add (.var 18) (.lit 1))] [(.cmp .lss (.ap 20 (.var 18) (.lit 0) (.lit 0)) (.lit (-536870912)))]))
 (.go [(.var 0), (.var 1), (.var 2), (.var 3), (.var 4), (.var 5), (.var 6), (.var 7), (.var 8), (.var 19), (.var 20), (.var 21), (.var 22), (.var 23), (.var 24), (.var 25), (.pl .add (.var 16) (.pl .mul (.ap 21 (.var 18) (.lit 0) (.lit 0)) (.lit 4294967296))), (.pl .add (.var 16) (.pl .mul (.ap 21 (.var 18) (.lit 0) (.lit 0)) (.lit 4294967296))), (.pl .add (.var 18) (.lit 1))] [(.cmp .lss (.ap 20 (.var 18) (.lit 0) (.lit 0)) (.lit (-536870912)))]))))
 (.node (.cmp .eql (.var 26) (.lit 2))
 .dead
 (.node (.cmp .eql (.var 9) (.lit 1))
 (.node (.cmp .eql (.var 26) (.lit 0))
 .dead
 (.go [(.var 0), (.var 1), (.var 2), (.var 3), (.var 4), (.var 5), (.var 6), (.var 7), (.var 8), (.var 19), (.var 20), (.var 21), (.var 22), (.var 23), (.var 24), (.var 25), (.pl .add (.var 16) (.pl .mul (.ap 21 (.var 18) (.lit 0) (.lit 0)) (.lit 4294967296))), (.var 17), (.pl .add (.var 18) (.lit 1))] [(.cmp .lss (.ap 20 (.var 18) (.lit 0) (.lit 0)) (.lit (-536870912)))]))
 (.go [(.var 0), (.var 1), (.var 2), (.var 3), (.var 4), (.var 5), (.var 6), (.var 7), (.var 8), (.var 19), (.var 20), (.var 21), (.var 22), (.var 23), (.var 24), (.var 25), (.pl .add (.var 16) (.pl .mul (.ap 21 (.var 18) (.lit 0) (.lit 0)) (.lit 4294967296))), (.var 17), (.pl .add (.var 18) (.lit 1))] [(.cmp .lss (.ap 20 (.var 18) (.lit 0) (.lit 0)) (.lit (-536870912)))]))))
 (.node (.cmp .eql (.var 19) (.var 9))
 (.node (.cmp .eql (.var 20) (.var 10))
 (.node (.cmp .eql (.var 21) (.var 11))
 (.node (.cmp .eql (.var 22) (.var 12))
 (.node (.cmp .eql (.var 23) (.var 13))
 (.node (.cmp .eql (.var 24) (.var 14))
 (.node (.cmp .eql (.var 25) (.var 15))
 (.node (.cmp .eql (.var 26) (.lit 0))
 (.node (.cmp .eql (.var 27) (.lit 0))
 (.node (.cmp .eql (.var 9) (.lit 1))
 .dead
 (.node (.cmp .eql (.var 28) (.lit 190))
 (.go [(.var 0), (.var 1), (.var 2), (.var 3), (.var 4), (.var 5), (.var 6), (.var 7), (.var 8), (.var 9), (.var 10), (.var 11), (.var 12), (.var 13), (.var 14), (.var 15), (.pl .add (.var 16) (.pl .mul (.ap 21 (.var 18) (.lit 0) (.lit 0)) (.lit 4294967296))), (.var 17), (.pl .add (.var 18) (.lit 1))] [(.var 0)])
 .dead))
 .dead)
 .dead)
 .dead)
 .dead)
 .dead)
 .dead)
 .dead)
 .dead)
 .dead))))
 (.stop [(.var 0), (.var 1), (.var 9), (.var 10), (.var 11), (.var 12), (.var 13), (.var 14), (.var 15)] []))

abbrev tR : Int × Int := (0, 84441204523008000)
abbrev lpR : List (Int × Int) := [(1, 300), (0, 255), (0, 4), i64R, i64R, i64R, i64R, i64R, i64R]
abbrev lpRx : List (Int × Int) := lpR ++ [(0, 4), tR, i64R, i64R, i64R, i64R, i64R, tR, tR, (0, 300), (0, 4), i64R, i64R, i64R, i64R, i64R, i64R, (0, 2), i64R, (0, 190)]
noncomputable abbrev lpAr : List (Int × Int) := arN ++ [i64R, (0, 65535)]
abbrev lpXs : List XD := [⟨0, 20, [.int .i64, .int .u16]⟩]
abbrev lpU : SV := .tuple [.agg [.int .i64 (.var 19), .int .i64 (.var 20), .int .i64 (.var 21), .int .i64 (.var 22), .int .i64 (.var 23), .int .i64 (.var 24), .int .i64 (.var 25)], .int .i64 (.var 26), .int .i64 (.var 27), .int .i64 (.var 28)]
abbrev lpD : SV := .agg [.int .i64 (.var 9), .int .i64 (.var 10), .int .i64 (.var 11), .int .i64 (.var 12), .int .i64 (.var 13), .int .i64 (.var 14), .int .i64 (.var 15)]
abbrev lpArgs : List SV := [stdS, lpD, .int .i64 (.ap 20 (.var 18) (.lit 0) (.lit 0)), .int .i64 (.pl .add (.var 16) (.pl .mul (.ap 21 (.var 18) (.lit 0) (.lit 0)) (.lit 4294967296))), .int .i64 (.var 1)]
abbrev lpK : List (FuncId × List SV × SV) := k19 ++ [(22, lpArgs, lpU)]
noncomputable abbrev lpX : Ctx := { pc := [], cr := lpK ++ crS, rg := lpRx, ar := lpAr, ct := conCt lpRx lpAr consN, xs := lpXs }
abbrev lpP : List Nat := [0, 1, 0, 1, 1, 1, 1, 1, 1, 1]
theorem lpA_lpB : lpB Try.prog lpX 600 8 lpP 1 lpAL lpAH lpAT lpAE lpAB = true := by kernel_rfl
theorem lpB_lpB : lpB Try.prog lpX 600 8 lpP 1 lpBL lpBH lpBT lpBE lpBB = true := by kernel_rfl
def farB (o : Int) : Bool := decide (536870912 < o) || decide (o < -536870912)
theorem farB_iff (o : Int) : farB o = true ↔ (536870912 < o ∨ o < -536870912) := by simp [farB]
/-- what an update does, as far as it is looked at -/
theorem upd_cases (d : Dsc) (h : d.ok) (off at' p : Int) (ho : InI off) (ha : 0 ≤ d.a ∧ d.a ≤ at') (ht : at' ≤ 84441204523008000) :
    (d.s ≠ 0 ∧ d.upd off at' p = ⟨d, 0, 0, 190⟩) ∨
    (farB off = true ∧ (d.upd off at' p).e = 0 ∧ ((d.s = 0 ∧ (d.upd off at' p).d.s = 3 ∧ (d.upd off at' p).d.a = at' ∧ (d.upd off at' p).k = 2) ∨ (d.s = 1 ∧ (d.upd off at' p).d.s = 4 ∧ (d.upd off at' p).d.a = at' ∧ (d.upd off at' p).k = 2) ∨ (d.s = 2 ∧ (d.upd off at' p).d.s = 2 ∧ (d.upd off at' p).d.a = d.a ∧ (d.upd off at' p).k = 0) ∨ (d.s = 2 ∧ 1288490188800 ≤ at' - d.a ∧ (d.upd off at' p).d.s = 4 ∧ (d.upd off at' p).d.a = at' ∧ (d.upd off at' p).k = 2) ∨ ((d.s = 3 ∨ d.s = 4) ∧ (d.upd off at' p).d.s = 2 ∧ (d.upd off at' p).d.a = at' ∧ (d.upd off at' p).k = 0))) ∨
    (farB off = false ∧ (d.upd off at' p).e = 0 ∧ ((d.s = 0 ∧ (d.upd off at' p).d.s = 3 ∧ (d.upd off at' p).d.a = at' ∧ (d.upd off at' p).k = 1) ∨ (d.s = 3 ∧ (d.upd off at' p).d.s = 3 ∧ (d.upd off at' p).d.a = d.a ∧ (d.upd off at' p).k = 0) ∨ ((d.upd off at' p).d.s = 4 ∧ (d.upd off at' p).d.a = at' ∧ (d.upd off at' p).k = 1))) := by
  have hA := abs_far off ho
  have hs := h.s
  have hg : mxI (apN 2 at' d.a 0) 0 = at' - d.a := by
    have e : apN 2 at' d.a 0 = sat (at' - d.a) := rfl
    rw [e]; unfold mxI sat; split <;> omega
  unfold Dsc.upd
  rw [hg]
  by_cases hp : d.s ≠ 0 ∧ 4294967296000 < apN 11 off 0 0
  · rw [if_pos hp]; exact .inl ⟨hp.1, rfl⟩
  rw [if_neg hp]
  right
  by_cases hf : 536870912 < apN 11 off 0 0
  · left
    rw [if_pos hf]
    refine ⟨(farB_iff off).2 (hA.1 hf), ?_⟩
    by_cases c0 : d.s = 0
    · rw [if_pos c0]; exact ⟨rfl, .inl ⟨c0, rfl, rfl, rfl⟩⟩
    rw [if_neg c0]
    by_cases c1 : d.s = 1
    · rw [if_pos c1]; exact ⟨rfl, .inr (.inl ⟨c1, rfl, rfl, rfl⟩)⟩
    rw [if_neg c1]
    by_cases c2 : d.s = 2
    · rw [if_pos c2]
      by_cases cw : at' - d.a < 1288490188800
      · rw [if_pos cw]; exact ⟨rfl, .inr (.inr (.inl ⟨c2, c2, rfl, rfl⟩))⟩
      · rw [if_neg cw]; exact ⟨rfl, .inr (.inr (.inr (.inl ⟨c2, by omega, rfl, rfl, rfl⟩)))⟩
    rw [if_neg c2]
    exact ⟨rfl, .inr (.inr (.inr (.inr ⟨by omega, rfl, rfl, rfl⟩)))⟩
  · right
    rw [if_neg hf]
    refine ⟨by
      cases hb : farB off with
      | false => rfl
      | true => exact absurd (hA.2 ((farB_iff off).1 hb)) hf, ?_⟩
    by_cases c0 : d.s = 0
    · rw [if_pos c0]; exact ⟨rfl, .inl ⟨c0, rfl, rfl, rfl⟩⟩
    rw [if_neg c0]
    by_cases c1 : d.s = 1
    · rw [if_pos c1]; exact ⟨rfl, .inr (.inr ⟨rfl, rfl, rfl⟩)⟩
    rw [if_neg c1]
    by_cases c3 : d.s = 3
    · rw [if_pos c3]
      by_cases cw : at' - d.a < 1288490188800
      · rw [if_pos cw]; exact ⟨rfl, .inr (.inl ⟨c3, c3, rfl, rfl⟩)⟩
      · rw [if_neg cw]; exact ⟨rfl, .inr (.inr ⟨rfl, rfl, rfl⟩)⟩
    rw [if_neg c3]
    exact ⟨rfl, .inr (.inr ⟨rfl, rfl, rfl⟩)⟩
/-- where the rounds stand -/
structure Stp where
  d : Dsc
  (now since : Int)
  all : Bool
structure Stp.inv (kn : Bool) (q : Stp) : Prop where
  ok : q.d.ok
  a : 0 ≤ q.d.a ∧ q.d.a ≤ q.now
  si : 0 ≤ q.since ∧ q.since ≤ q.now
  al : q.all = true → q.d.s = 2 ∧ q.since ≤ q.d.a
  nal : q.all = false → q.d.s ≠ 2
  k1 : kn = false → q.d.s ≠ 1
noncomputable def Stp.u (q : Stp) (o g p : Int) : Upd := q.d.upd o (q.now + g * 4294967296) p
noncomputable def Stp.step (q : Stp) (o g p : Int) : Stp :=
  if (q.u o g p).e ≠ 0 then ⟨q.d, q.now + g * 4294967296, q.since, q.all⟩
  else ⟨(q.u o g p).d, q.now + g * 4294967296, if farB o && !q.all then q.now + g * 4294967296 else q.since, if (q.u o g p).k = 2 then false else farB o⟩
theorem Stp.inv.step {kn : Bool} {q : Stp} (h : q.inv kn) {o g p : Int} (ho : InI o) (hg : 0 ≤ g ∧ g ≤ 65535) (ht : q.now + g * 4294967296 ≤ 84441204523008000) : (q.step o g p).inv kn := by
  have ha := h.a
  have hs := h.si
  have hok := upd_in _ h.ok o (q.now + g * 4294967296) p ho ⟨by omega, by omega⟩
  rcases upd_cases q.d h.ok o (q.now + g * 4294967296) p ho ⟨ha.1, by omega⟩ ht with ⟨c, e⟩ | ⟨f, e, c⟩ | ⟨f, e, c⟩
  · unfold Stp.step Stp.u
    rw [e, if_pos (show (190 : Int) ≠ 0 by decide)]
    exact ⟨h.ok, ⟨ha.1, by dsimp only; omega⟩, ⟨hs.1, by dsimp only; omega⟩, h.al, h.nal, h.k1⟩
  · unfold Stp.step Stp.u
    rw [if_neg (by rw [e]; decide), f]
    generalize q.d.upd o (q.now + g * 4294967296) p = u at *
    have al := h.al
    have nal := h.nal
    have k1 := h.k1
    have hnw : q.now ≤ q.now + g * 4294967296 := by omega
    generalize q.now + g * 4294967296 = nw at *
    refine ⟨hok.1, ?_, ?_, ?_, ?_, ?_⟩ <;> dsimp only
    · rcases c with c | c | c | c | c <;> omega
    · cases q.all <;> simp only [Bool.and_true, Bool.and_false, Bool.not_true, Bool.not_false, if_true, if_false, Bool.false_eq_true, Bool.true_and, Bool.false_and] <;> omega
    · intro hh
      split at hh
      · cases hh
      · cases hq : q.all with
        | true =>
          have := al hq
          simp only [Bool.and_true, Bool.and_false, Bool.not_true, Bool.not_false, if_true, if_false, Bool.false_eq_true]
          rcases c with c | c | c | c | c <;> omega
        | false =>
          have := nal hq
          simp only [Bool.and_true, Bool.and_false, Bool.not_true, Bool.not_false, if_true, if_false, Bool.false_eq_true]
          rcases c with c | c | c | c | c <;> omega
    · intro hh
      split at hh
      · rcases c with c | c | c | c | c <;> omega
      · cases hh
    · intro hk
      have := k1 hk
      rcases c with c | c | c | c | c <;> omega
  · unfold Stp.step Stp.u
    rw [if_neg (by rw [e]; decide), f]
    generalize q.d.upd o (q.now + g * 4294967296) p = u at *
    have al := h.al
    have nal := h.nal
    have k1 := h.k1
    have hnw : q.now ≤ q.now + g * 4294967296 := by omega
    generalize q.now + g * 4294967296 = nw at *
    refine ⟨hok.1, ?_, ?_, ?_, ?_, ?_⟩ <;> dsimp only
    · rcases c with c | c | c <;> omega
    · cases q.all <;> simp only [Bool.and_true, Bool.and_false, Bool.not_true, Bool.not_false, if_true, if_false, Bool.false_eq_true, Bool.true_and, Bool.false_and] <;> omega
    · intro hh
      split at hh <;> cases hh
    · intro hh
      have hn2 : q.all = true → q.d.s = 2 := fun x => (al x).1
      rcases c with c | c | c <;> omega
    · intro hk
      have := k1 hk
      rcases c with c | c | c <;> omega
noncomputable def stIt (off gap : Int → Int) (p : Int) (d : Dsc) : Nat → Stp
  | 0 => ⟨d, 0, 0, false⟩
  | k + 1 => (stIt off gap p d k).step (off k) (gap k) p
theorem Stp.step_now (q : Stp) (o g p : Int) : (q.step o g p).now = q.now + g * 4294967296 := by unfold Stp.step; split <;> rfl
theorem stIt_inv {kn : Bool} {off gap : Int → Int} {p : Int} {d : Dsc} (h : (⟨d, 0, 0, false⟩ : Stp).inv kn) (ho : ∀ a, InI (off a)) (hg : ∀ a, 0 ≤ gap a ∧ gap a ≤ 65535) : ∀ k : Nat, k ≤ 300 → (stIt off gap p d k).inv kn ∧ 0 ≤ (stIt off gap p d k).now ∧ (stIt off gap p d k).now ≤ k * 281470681743360
  | 0, _ => ⟨h, by show (0 : Int) ≤ 0 ∧ (0 : Int) ≤ _; omega⟩
  | k + 1, hk => by
    obtain ⟨h1, h2, h3⟩ := stIt_inv (p := p) h ho hg k (by omega)
    have h4 := hg k
    simp only [stIt]
    rw [Stp.step_now]
    exact ⟨h1.step (ho k) h4 (by omega), by omega, by push_cast; omega⟩
abbrev Dsc.l (d : Dsc) : List Int := [d.s, d.a, d.o, d.f, d.j, d.wa, d.re]
abbrev Upd.l (u : Upd) : List Int := u.d.l ++ [u.k, u.b, u.e]
noncomputable abbrev lpLaw (off gap : Int → Int) (n p : Int) (d : Dsc) : List Int := [n, p] ++ (stIt off gap p d n.toNat).d.l
noncomputable abbrev lpHd (off gap : Int → Int) (n p : Int) (d : Dsc) (k : Nat) : List Int := lpLaw off gap n p d ++ ((stIt off gap p d k).d.l ++ [(stIt off gap p d k).now, (stIt off gap p d k).since, (k : Int)])
noncomputable abbrev lpSt (off gap : Int → Int) (n p : Int) (d : Dsc) (k : Nat) : List Int := lpHd off gap n p d k ++ ((stIt off gap p d k).u (off k) (gap k) p).l
theorem lp_rg {kn : Bool} {ρ : Env} {off gap : Int → Int} {n p : Int} {d : Dsc} (h : (⟨d, 0, 0, false⟩ : Stp).inv kn) (ho : ∀ a, InI (off a)) (hg : ∀ a, 0 ≤ gap a ∧ gap a ≤ 65535) (hn : 1 ≤ n ∧ n ≤ 300) (hp : 0 ≤ p ∧ p ≤ 255) {k : Nat} (hk : (k : Int) ≤ n) (bs : List Bool) : AllIn (ρ.on (lpSt off gap n p d k) bs).i lpRx 0 := by
  obtain ⟨h1, h2, h3⟩ := stIt_inv (p := p) h ho hg k (by omega)
  obtain ⟨g1, _, _⟩ := stIt_inv (p := p) h ho hg n.toNat (by omega)
  have hgk := hg k
  have hin : InI ((stIt off gap p d k).now + gap k * 4294967296) := ⟨by omega, by omega⟩
  obtain ⟨hu, v1, v2, v3⟩ := upd_in _ h1.ok (off k) ((stIt off gap p d k).now + gap k * 4294967296) p (ho k) hin
  have ha := h1.a
  have hs := h1.si
  simp only [AllIn, Env.on, lpSt, lpHd, lpLaw, Dsc.l, Upd.l, Stp.u, List.cons_append, List.nil_append, List.getD_cons_zero, List.getD_cons_succ]
  exact ⟨hn, hp, g1.ok.s, g1.ok.a, g1.ok.o, g1.ok.f, g1.ok.j, g1.ok.wa, g1.ok.re, h1.ok.s, ⟨ha.1, by omega⟩, h1.ok.o, h1.ok.f, h1.ok.j, h1.ok.wa, h1.ok.re, ⟨h2, by omega⟩, ⟨hs.1, by omega⟩, ⟨by omega, by omega⟩, hu.s, hu.a, hu.o, hu.f, hu.j, hu.wa, hu.re, v1, v2, v3, trivial⟩
theorem lp_arIn {ρ : Env} {off gap : Int → Int} (ha : ρ.a = apR [off, gap]) (ho : ∀ a, InI (off a)) (hg : ∀ a, 0 ≤ gap a ∧ gap a ≤ 65535) : ArIn ρ lpAr := by
  refine arIn_R ha (fun i v h a => ?_)
  rcases i with _ | _ | i <;> simp at h <;> subst h
  · exact ho a
  · exact hg a
theorem lpA_next {ρ : Env} {off gap : Int → Int} (ha : ρ.a = apR [off, gap]) {n p : Int} {d : Dsc} (h : (⟨d, 0, 0, false⟩ : Stp).inv true) (ho : ∀ a, InI (off a)) (hg : ∀ a, 0 ≤ gap a ∧ gap a ≤ 65535) {k : Nat} (hk : (k : Int) < n) (hn : n ≤ 300) :
    lpAT.next (ρ.on (lpSt off gap n p d k) [(stIt off gap p d k).all]) = some (lpHd off gap n p d (k + 1), [(stIt off gap p d (k + 1)).all]) := by
  obtain ⟨h1, h2, h3⟩ := stIt_inv (p := p) h ho hg k (by omega)
  have hgk := hg k
  have hap0 : ∀ x : Int, ρ.a 20 x 0 0 = off x := fun x => by rw [ha]; rfl
  have hap1 : ∀ x : Int, ρ.a 21 x 0 0 = gap x := fun x => by rw [ha]; rfl
  have e1 : ∀ x y : Int, plI .add x y = x + y := fun _ _ => rfl
  have e2 : ∀ x y : Int, plI .mul x y = x * y := fun _ _ => rfl
  have e3 : ∀ x y : Int, plI .sub x y = x - y := fun _ _ => rfl
  have hac := h1.a
  have hs := h1.ok.s
  have al := h1.al
  have nal := h1.nal
  have k1 := h1.k1
  have hcs := upd_cases (stIt off gap p d k).d h1.ok (off k) ((stIt off gap p d k).now + gap k * 4294967296) p (ho k) ⟨hac.1, by omega⟩ (by omega)
  have hst : stIt off gap p d (k + 1) = (stIt off gap p d k).step (off k) (gap k) p := rfl
  rcases hcs with ⟨c, e⟩ | ⟨f, e, c⟩ | ⟨f, e, c⟩
  · have hsp : (stIt off gap p d k).step (off k) (gap k) p = ⟨(stIt off gap p d k).d, (stIt off gap p d k).now + gap k * 4294967296, (stIt off gap p d k).since, (stIt off gap p d k).all⟩ := by
      unfold Stp.step Stp.u
      rw [e, if_pos (show (190 : Int) ≠ 0 by decide)]
    simp only [lpAT, RT.next, BE.den, cmpI, IE.den, Env.on, lpSt, lpHd, lpLaw, Dsc.l, Upd.l, List.cons_append, List.nil_append, List.getD_cons_zero, List.getD_cons_succ, dens, bdens, List.map_cons, List.map_nil, hap0, hap1, e1, e2, e3, hst, hsp, Stp.u]
    generalize stIt off gap p d k = q at *
    generalize (stIt off gap p d n.toNat).d = df at *
    have c0 : (q.d.s == 0) = false := beq_eq_false_iff_ne.2 c
    by_cases c1 : q.d.s = 1 <;> by_cases f1 : 536870912 < off k <;> by_cases f2 : off k < -536870912 <;> simp [hk, e, c0, c1, f1, f2]
  · have hsp : (stIt off gap p d k).step (off k) (gap k) p = ⟨((stIt off gap p d k).d.upd (off k) ((stIt off gap p d k).now + gap k * 4294967296) p).d, (stIt off gap p d k).now + gap k * 4294967296, if true && !(stIt off gap p d k).all then (stIt off gap p d k).now + gap k * 4294967296 else (stIt off gap p d k).since, if ((stIt off gap p d k).d.upd (off k) ((stIt off gap p d k).now + gap k * 4294967296) p).k = 2 then false else true⟩ := by
      unfold Stp.step Stp.u
      rw [if_neg (by rw [e]; decide), f]
    simp only [lpAT, RT.next, BE.den, cmpI, IE.den, Env.on, lpSt, lpHd, lpLaw, Dsc.l, Upd.l, List.cons_append, List.nil_append, List.getD_cons_zero, List.getD_cons_succ, dens, bdens, List.map_cons, List.map_nil, hap0, hap1, e1, e2, e3, hst, hsp, Stp.u]
    generalize stIt off gap p d k = q at *
    generalize (stIt off gap p d n.toNat).d = df at *
    generalize q.d.upd (off k) (q.now + gap k * 4294967296) p = u at *
    have f' := (farB_iff _).1 f
    cases hq : q.all with
    | true =>
      obtain ⟨a1, a2⟩ := al hq
      rcases c with c | c | c | c | c
      · omega
      · omega
      · obtain ⟨c1, c2, c3, c4⟩ := c
        rcases f' with f' | f' <;> by_cases f2 : 536870912 < off k <;> simp [hk, e, f, f', f2, c1, c4]
      · obtain ⟨c1, cw, c2, c3, c4⟩ := c
        have cw' : ¬ (q.now + gap k * 4294967296 - q.since < 1288490188800) := by omega
        rcases f' with f' | f' <;> by_cases f2 : 536870912 < off k <;> simp [hk, e, f, f', f2, c1, c4, cw']
      · omega
    | false =>
      have a1 := nal hq
      rcases c with c | c | c | c | c
      · obtain ⟨c1, c2, c3, c4⟩ := c
        rcases f' with f' | f' <;> by_cases f2 : 536870912 < off k <;> simp [hk, e, f, f', f2, c1, c4]
      · obtain ⟨c1, c2, c3, c4⟩ := c
        rcases f' with f' | f' <;> by_cases f2 : 536870912 < off k <;> simp [hk, e, f, f', f2, c1, c4]
      · omega
      · omega
      · obtain ⟨c1, c2, c3, c4⟩ := c
        have c5 : (q.d.s == 0) = false := beq_eq_false_iff_ne.2 (by omega)
        have c6 : (q.d.s == 1) = false := beq_eq_false_iff_ne.2 (by omega)
        rcases f' with f' | f' <;> by_cases f2 : 536870912 < off k <;> simp [hk, e, f, f', f2, c5, c6, c4]
  · have hsp : (stIt off gap p d k).step (off k) (gap k) p = ⟨((stIt off gap p d k).d.upd (off k) ((stIt off gap p d k).now + gap k * 4294967296) p).d, (stIt off gap p d k).now + gap k * 4294967296, if false && !(stIt off gap p d k).all then (stIt off gap p d k).now + gap k * 4294967296 else (stIt off gap p d k).since, if ((stIt off gap p d k).d.upd (off k) ((stIt off gap p d k).now + gap k * 4294967296) p).k = 2 then false else false⟩ := by
      unfold Stp.step Stp.u
      rw [if_neg (by rw [e]; decide), f]
    simp only [lpAT, RT.next, BE.den, cmpI, IE.den, Env.on, lpSt, lpHd, lpLaw, Dsc.l, Upd.l, List.cons_append, List.nil_append, List.getD_cons_zero, List.getD_cons_succ, dens, bdens, List.map_cons, List.map_nil, hap0, hap1, e1, e2, e3, hst, hsp, Stp.u]
    generalize stIt off gap p d k = q at *
    generalize (stIt off gap p d n.toNat).d = df at *
    generalize q.d.upd (off k) (q.now + gap k * 4294967296) p = u at *
    have f1 : ¬ 536870912 < off k := fun hh => by rw [(farB_iff _).2 (.inl hh)] at f; cases f
    have f2 : ¬ off k < -536870912 := fun hh => by rw [(farB_iff _).2 (.inr hh)] at f; cases f
    rcases c with c | c | c
    · obtain ⟨c1, c2, c3, c4⟩ := c
      simp [hk, e, f, f1, f2, c1, c4]
    · obtain ⟨c1, c2, c3, c4⟩ := c
      simp [hk, e, f, f1, f2, c1, c4]
    · obtain ⟨c2, c3, c4⟩ := c
      by_cases c0 : q.d.s = 0 <;> by_cases c1 : q.d.s = 1 <;> simp [hk, e, f, f1, f2, c0, c1, c4]
theorem lpB_next {ρ : Env} {off gap : Int → Int} (ha : ρ.a = apR [off, gap]) {n p : Int} {d : Dsc} (h : (⟨d, 0, 0, false⟩ : Stp).inv false) (ho : ∀ a, InI (off a)) (hg : ∀ a, 0 ≤ gap a ∧ gap a ≤ 65535) {k : Nat} (hk : (k : Int) < n) (hn : n ≤ 300) :
    lpBT.next (ρ.on (lpSt off gap n p d k) [(stIt off gap p d k).all]) = some (lpHd off gap n p d (k + 1), [(stIt off gap p d (k + 1)).all]) := by
  obtain ⟨h1, h2, h3⟩ := stIt_inv (p := p) h ho hg k (by omega)
  have hgk := hg k
  have hap0 : ∀ x : Int, ρ.a 20 x 0 0 = off x := fun x => by rw [ha]; rfl
  have hap1 : ∀ x : Int, ρ.a 21 x 0 0 = gap x := fun x => by rw [ha]; rfl
  have e1 : ∀ x y : Int, plI .add x y = x + y := fun _ _ => rfl
  have e2 : ∀ x y : Int, plI .mul x y = x * y := fun _ _ => rfl
  have e3 : ∀ x y : Int, plI .sub x y = x - y := fun _ _ => rfl
  have hac := h1.a
  have hs := h1.ok.s
  have al := h1.al
  have nal := h1.nal
  have k1 := h1.k1
  have hcs := upd_cases (stIt off gap p d k).d h1.ok (off k) ((stIt off gap p d k).now + gap k * 4294967296) p (ho k) ⟨hac.1, by omega⟩ (by omega)
  have hst : stIt off gap p d (k + 1) = (stIt off gap p d k).step (off k) (gap k) p := rfl
  rcases hcs with ⟨c, e⟩ | ⟨f, e, c⟩ | ⟨f, e, c⟩
  · have hsp : (stIt off gap p d k).step (off k) (gap k) p = ⟨(stIt off gap p d k).d, (stIt off gap p d k).now + gap k * 4294967296, (stIt off gap p d k).since, (stIt off gap p d k).all⟩ := by
      unfold Stp.step Stp.u
      rw [e, if_pos (show (190 : Int) ≠ 0 by decide)]
    simp only [lpBT, RT.next, BE.den, cmpI, IE.den, Env.on, lpSt, lpHd, lpLaw, Dsc.l, Upd.l, List.cons_append, List.nil_append, List.getD_cons_zero, List.getD_cons_succ, dens, bdens, List.map_cons, List.map_nil, hap0, hap1, e1, e2, e3, hst, hsp, Stp.u]
    generalize stIt off gap p d k = q at *
    generalize (stIt off gap p d n.toNat).d = df at *
    have c0 : (q.d.s == 0) = false := beq_eq_false_iff_ne.2 c
    have c1 : (q.d.s == 1) = false := beq_eq_false_iff_ne.2 (k1 rfl)
    by_cases f1 : 536870912 < off k <;> by_cases f2 : off k < -536870912 <;> simp [hk, e, c0, c1, f1, f2]
  · have hsp : (stIt off gap p d k).step (off k) (gap k) p = ⟨((stIt off gap p d k).d.upd (off k) ((stIt off gap p d k).now + gap k * 4294967296) p).d, (stIt off gap p d k).now + gap k * 4294967296, if true && !(stIt off gap p d k).all then (stIt off gap p d k).now + gap k * 4294967296 else (stIt off gap p d k).since, if ((stIt off gap p d k).d.upd (off k) ((stIt off gap p d k).now + gap k * 4294967296) p).k = 2 then false else true⟩ := by
      unfold Stp.step Stp.u
      rw [if_neg (by rw [e]; decide), f]
    simp only [lpBT, RT.next, BE.den, cmpI, IE.den, Env.on, lpSt, lpHd, lpLaw, Dsc.l, Upd.l, List.cons_append, List.nil_append, List.getD_cons_zero, List.getD_cons_succ, dens, bdens, List.map_cons, List.map_nil, hap0, hap1, e1, e2, e3, hst, hsp, Stp.u]
    generalize stIt off gap p d k = q at *
    generalize (stIt off gap p d n.toNat).d = df at *
    generalize q.d.upd (off k) (q.now + gap k * 4294967296) p = u at *
    have f' := (farB_iff _).1 f
    cases hq : q.all with
    | true =>
      obtain ⟨a1, a2⟩ := al hq
      rcases c with c | c | c | c | c
      · omega
      · omega
      · obtain ⟨c1, c2, c3, c4⟩ := c
        rcases f' with f' | f' <;> by_cases f2 : 536870912 < off k <;> simp [hk, e, f, f', f2, c1, c4]
      · obtain ⟨c1, cw, c2, c3, c4⟩ := c
        have cw' : ¬ (q.now + gap k * 4294967296 - q.since < 1288490188800) := by omega
        rcases f' with f' | f' <;> by_cases f2 : 536870912 < off k <;> simp [hk, e, f, f', f2, c1, c4, cw']
      · omega
    | false =>
      have a1 := nal hq
      rcases c with c | c | c | c | c
      · obtain ⟨c1, c2, c3, c4⟩ := c
        rcases f' with f' | f' <;> by_cases f2 : 536870912 < off k <;> simp [hk, e, f, f', f2, c1, c4]
      · obtain ⟨c1, c2, c3, c4⟩ := c
        rcases f' with f' | f' <;> by_cases f2 : 536870912 < off k <;> simp [hk, e, f, f', f2, c1, c4]
      · omega
      · omega
      · obtain ⟨c1, c2, c3, c4⟩ := c
        have c5 : (q.d.s == 0) = false := beq_eq_false_iff_ne.2 (by omega)
        have c6 : (q.d.s == 1) = false := beq_eq_false_iff_ne.2 (by omega)
        rcases f' with f' | f' <;> by_cases f2 : 536870912 < off k <;> simp [hk, e, f, f', f2, c5, c6, c4]
  · have hsp : (stIt off gap p d k).step (off k) (gap k) p = ⟨((stIt off gap p d k).d.upd (off k) ((stIt off gap p d k).now + gap k * 4294967296) p).d, (stIt off gap p d k).now + gap k * 4294967296, if false && !(stIt off gap p d k).all then (stIt off gap p d k).now + gap k * 4294967296 else (stIt off gap p d k).since, if ((stIt off gap p d k).d.upd (off k) ((stIt off gap p d k).now + gap k * 4294967296) p).k = 2 then false else false⟩ := by
      unfold Stp.step Stp.u
      rw [if_neg (by rw [e]; decide), f]
    simp only [lpBT, RT.next, BE.den, cmpI, IE.den, Env.on, lpSt, lpHd, lpLaw, Dsc.l, Upd.l, List.cons_append, List.nil_append, List.getD_cons_zero, List.getD_cons_succ, dens, bdens, List.map_cons, List.map_nil, hap0, hap1, e1, e2, e3, hst, hsp, Stp.u]
    generalize stIt off gap p d k = q at *
    generalize (stIt off gap p d n.toNat).d = df at *
    generalize q.d.upd (off k) (q.now + gap k * 4294967296) p = u at *
    have f1 : ¬ 536870912 < off k := fun hh => by rw [(farB_iff _).2 (.inl hh)] at f; cases f
    have f2 : ¬ off k < -536870912 := fun hh => by rw [(farB_iff _).2 (.inr hh)] at f; cases f
    rcases c with c | c | c
    · obtain ⟨c1, c2, c3, c4⟩ := c
      simp [hk, e, f, f1, f2, c1, c4]
    · obtain ⟨c1, c2, c3, c4⟩ := c
      simp [hk, e, f, f1, f2, c1, c4]
    · obtain ⟨c2, c3, c4⟩ := c
      by_cases c0 : q.d.s = 0 <;> by_cases c1 : q.d.s = 1 <;> simp [hk, e, f, f1, f2, c0, c1, c4]
theorem lpA_start : (⟨(⟨1, 0, 0, 7, 0, 0, 0⟩ : Dsc), 0, 0, false⟩ : Stp).inv true := ⟨⟨by decide, by decide, by decide, by decide, by decide, by decide, by decide⟩, by decide, by decide, fun h => (by cases h), fun _ => (by decide), fun h => (by cases h)⟩
theorem lpA_loop {W : World} {v : Value} {B : Ext} {off gap : Int → Int} (hB : XIn [.int .i64, .int .u16] W v B [off, gap]) (ho : ∀ a, InI (off a)) (hg : ∀ a, 0 ≤ gap a ∧ gap a ≤ 65535) (n p : Int) (hn : 1 ≤ n ∧ n ≤ 300) (hnB : n = B.len) (hp : 0 ≤ p ∧ p ≤ 255) {E : List (Nat × Nat)} {w0 : World} {φ0 : Nat → Nat} {st0 : Store} {c : Code} (hc : codeAt Try.prog 8 lpP = .loop c) {st : Store} (hbl : ∀ q ∈ lpAL.bl, Store.get st q.1 = some q.2) {a : Act} {w : World}
    (hr : RelF (envOf (lpLaw off gap n p (⟨1, 0, 0, 7, 0, 0, 0⟩ : Dsc)) [] [] [] (apR [off, gap]) [some B]) E w0 φ0 st0 ⟨lpAL.tm, st⟩ a w) {Q : Exit → Act → World → Prop} (hQ : ∀ a' w', RelF (envOf (lpLaw off gap n p (⟨1, 0, 0, 7, 0, 0, 0⟩ : Dsc)) [] [] [] (apR [off, gap]) [some B]) E w0 φ0 st0 ⟨lpAL.tm', setAll st lpAL.bl'⟩ a' w' → Q lpAL.ex.to a' w') : (Code.loop c).wp Try.prog Q a w := by
  have hd := lpA_start
  generalize hρ : envOf (lpLaw off gap n p (⟨1, 0, 0, 7, 0, 0, 0⟩ : Dsc)) [] [] [] (apR [off, gap]) [some B] = ρ at hr hQ
  have ha : ρ.a = apR [off, gap] := by rw [← hρ]
  have hx : ρ.x 0 = some B := by rw [← hρ]; rfl
  refine rt_lpx lpA_lpB hc (fun m is bs => ∃ k : Nat, (k : Int) ≤ n ∧ m = n.toNat - k ∧ bs = [(stIt off gap p (⟨1, 0, 0, 7, 0, 0, 0⟩ : Dsc) k).all] ∧ is = lpSt off gap n p (⟨1, 0, 0, 7, 0, 0, 0⟩ : Dsc) k) ?_ ?_ ⟨n.toNat, lpSt off gap n p (⟨1, 0, 0, 7, 0, 0, 0⟩ : Dsc) 0, _, ⟨0, by omega, rfl, rfl, rfl⟩, ?_, ?_⟩ ?_ hbl hr hQ
  · rintro m is bs ⟨k, hk, _, rfl, rfl⟩
    refine knows_env rfl (lp_rg hd ho hg hn hp hk _) (lp_arIn (by exact ha) ho hg) (xs_one (xok_one hB (by exact ha) ?_) hx)
    exact hnB
  · rintro m is bs ⟨k, hk, _, rfl, rfl⟩ E
    obtain ⟨h1, h2, h3⟩ := stIt_inv (p := p) hd ho hg k (by omega)
    have hgk := hg k
    refine knowsC_all (AllIn.get0 (lp_rg hd ho hg hn hp hk _)) (numA_R ha) (lp_arIn (by exact ha) ho hg) (fun c0 hc0 => ?_) LpOk.none
    rcases List.mem_append.1 hc0 with hc0 | hc0
    · exact k19_ok c0 hc0
    · rw [List.mem_singleton.1 hc0]
      intro φ w _
      have key := upd_any _ h1.ok (off k) ((stIt off gap p (⟨1, 0, 0, 7, 0, 0, 0⟩ : Dsc) k).now + gap k * 4294967296) p (ho k) ⟨by omega, by omega⟩ hp w
      have e0 : ρ.a 20 k 0 0 = off k := by rw [ha]; rfl
      have e1 : ρ.a 21 k 0 0 = gap k := by rw [ha]; rfl
      have e2 : SV.denL (ρ.on (lpSt off gap n p (⟨1, 0, 0, 7, 0, 0, 0⟩ : Dsc) k) [(stIt off gap p (⟨1, 0, 0, 7, 0, 0, 0⟩ : Dsc) k).all]) φ lpArgs = [stdS.den (envOf []) id, (stIt off gap p (⟨1, 0, 0, 7, 0, 0, 0⟩ : Dsc) k).d.val, .int .i64 (off k), .int .i64 ((stIt off gap p (⟨1, 0, 0, 7, 0, 0, 0⟩ : Dsc) k).now + gap k * 4294967296), .int .i64 p] := by
        rw [← e0, ← e1]; rfl
      show Calls _ _ (SV.denL _ φ lpArgs).toArray w _
      rw [e2]
      exact key
  · rw [← hρ]
    exact ⟨_, rfl⟩
  · exact ⟨[], rfl⟩
  · rintro m is bs ⟨k, hk, rfl, rfl, rfl⟩
    by_cases hlt : (k : Int) < n
    · exact .inl ⟨_, _, n.toNat - (k + 1), lpSt off gap n p (⟨1, 0, 0, 7, 0, 0, 0⟩ : Dsc) (k + 1), _, lpA_next ha hd ho hg hlt hn.2, by omega, ⟨k + 1, by omega, rfl, rfl, rfl⟩, ⟨_, rfl⟩, ⟨[], rfl⟩⟩
    · obtain rfl : k = n.toNat := by omega
      refine .inr ⟨lpLaw off gap n p (⟨1, 0, 0, 7, 0, 0, 0⟩ : Dsc), [], ?_, ?_⟩
      · have hlt' : ¬ ((n.toNat : Nat) : Int) < n := by omega
        simp only [lpAT, RT.out, BE.den, cmpI, IE.den, Env.on, lpSt, lpHd, lpLaw, Dsc.l, Upd.l, List.cons_append, List.nil_append, List.getD_cons_zero, List.getD_cons_succ, dens, bdens, List.map_cons, List.map_nil, decide_eq_false hlt', cond_false]
      · rw [← hρ]; exact envOf_has _ _ _ _ _ _
theorem lpA_walk {W : World} {v : Value} {B : Ext} {off gap : Int → Int} (hB : XIn [.int .i64, .int .u16] W v B [off, gap]) (ho : ∀ a, InI (off a)) (hg : ∀ a, 0 ≤ gap a ∧ gap a ≤ 65535) (hl : B.len ≤ 300) (p : Int) (hp : 0 ≤ p ∧ p ≤ 255) :
    Calls Try.prog 8 #[v, .bool true, .int .u8 p] W fun e w' => e = .returned (.bool true) ∧ Below W.heap.size W w' := by
  have hpos := hB.pos
  obtain ⟨g1, _, _⟩ := stIt_inv (p := p) lpA_start ho hg B.len hl
  have key := law_all (ρ := envOf (lpLaw off gap B.len p (⟨1, 0, 0, 7, 0, 0, 0⟩ : Dsc)) [] [] [] (apR [off, gap]) [some B]) (rg := lpR) (ar := lpAr) (f := 8) (args := [.xs 0, .bool (.lit true), .int .u8 (.var 1)])
    (by
      simp only [AllIn, lpLaw, Dsc.l, List.cons_append, List.nil_append, List.getD_cons_zero, List.getD_cons_succ, Int.toNat_natCast]
      exact ⟨⟨by omega, by omega⟩, hp, g1.ok.s, g1.ok.a, g1.ok.o, g1.ok.f, g1.ok.j, g1.ok.wa, g1.ok.re, trivial⟩)
    (numA_R rfl) (lp_arIn rfl ho hg) (cr := k19) k19_ok (lp := fun f p _ => if Nat.beq f 8 && decide (p = lpP) then some lpAL else none) ?_ (xs := lpXs) (xs_one (xok_one hB rfl rfl) rfl) (.leaf (.bool (.lit true))) (n := 600) (by kernel_rfl) rfl rfl W (ext_one hB rfl)
  · have e : SV.denL (envOf (lpLaw off gap B.len p (⟨1, 0, 0, 7, 0, 0, 0⟩ : Dsc)) [] [] [] (apR [off, gap]) [some B]) id [.xs 0, .bool (.lit true), .int .u8 (.var 1)] = [v, .bool true, .int .u8 p] := by
      rw [hB.val]; rfl
    rw [e] at key
    exact key
  · intro f p' u L hL c hc st hbl _ w0 φ0 st0 a w hr Q hQ
    dsimp only at hL
    split at hL
    · rename_i hfp
      simp only [Bool.and_eq_true, Nat.beq_eq, decide_eq_true_eq] at hfp
      obtain ⟨rfl, rfl⟩ := hfp
      cases hL
      exact lpA_loop hB ho hg B.len p ⟨by omega, by omega⟩ rfl hp hc hbl hr hQ
    · cases hL
theorem lpB_start : (⟨(⟨0, 0, 0, 0, 0, 0, 0⟩ : Dsc), 0, 0, false⟩ : Stp).inv false := ⟨⟨by decide, by decide, by decide, by decide, by decide, by decide, by decide⟩, by decide, by decide, fun h => (by cases h), fun _ => (by decide), fun _ => (by decide)⟩
theorem lpB_loop {W : World} {v : Value} {B : Ext} {off gap : Int → Int} (hB : XIn [.int .i64, .int .u16] W v B [off, gap]) (ho : ∀ a, InI (off a)) (hg : ∀ a, 0 ≤ gap a ∧ gap a ≤ 65535) (n p : Int) (hn : 1 ≤ n ∧ n ≤ 300) (hnB : n = B.len) (hp : 0 ≤ p ∧ p ≤ 255) {E : List (Nat × Nat)} {w0 : World} {φ0 : Nat → Nat} {st0 : Store} {c : Code} (hc : codeAt Try.prog 8 lpP = .loop c) {st : Store} (hbl : ∀ q ∈ lpBL.bl, Store.get st q.1 = some q.2) {a : Act} {w : World}
    (hr : RelF (envOf (lpLaw off gap n p (⟨0, 0, 0, 0, 0, 0, 0⟩ : Dsc)) [] [] [] (apR [off, gap]) [some B]) E w0 φ0 st0 ⟨lpBL.tm, st⟩ a w) {Q : Exit → Act → World → Prop} (hQ : ∀ a' w', RelF (envOf (lpLaw off gap n p (⟨0, 0, 0, 0, 0, 0, 0⟩ : Dsc)) [] [] [] (apR [off, gap]) [some B]) E w0 φ0 st0 ⟨lpBL.tm', setAll st lpBL.bl'⟩ a' w' → Q lpBL.ex.to a' w') : (Code.loop c).wp Try.prog Q a w := by
  have hd := lpB_start
  generalize hρ : envOf (lpLaw off gap n p (⟨0, 0, 0, 0, 0, 0, 0⟩ : Dsc)) [] [] [] (apR [off, gap]) [some B] = ρ at hr hQ
  have ha : ρ.a = apR [off, gap] := by rw [← hρ]
  have hx : ρ.x 0 = some B := by rw [← hρ]; rfl
  refine rt_lpx lpB_lpB hc (fun m is bs => ∃ k : Nat, (k : Int) ≤ n ∧ m = n.toNat - k ∧ bs = [(stIt off gap p (⟨0, 0, 0, 0, 0, 0, 0⟩ : Dsc) k).all] ∧ is = lpSt off gap n p (⟨0, 0, 0, 0, 0, 0, 0⟩ : Dsc) k) ?_ ?_ ⟨n.toNat, lpSt off gap n p (⟨0, 0, 0, 0, 0, 0, 0⟩ : Dsc) 0, _, ⟨0, by omega, rfl, rfl, rfl⟩, ?_, ?_⟩ ?_ hbl hr hQ
  · rintro m is bs ⟨k, hk, _, rfl, rfl⟩
    refine knows_env rfl (lp_rg hd ho hg hn hp hk _) (lp_arIn (by exact ha) ho hg) (xs_one (xok_one hB (by exact ha) ?_) hx)
    exact hnB
  · rintro m is bs ⟨k, hk, _, rfl, rfl⟩ E
    obtain ⟨h1, h2, h3⟩ := stIt_inv (p := p) hd ho hg k (by omega)
    have hgk := hg k
    refine knowsC_all (AllIn.get0 (lp_rg hd ho hg hn hp hk _)) (numA_R ha) (lp_arIn (by exact ha) ho hg) (fun c0 hc0 => ?_) LpOk.none
    rcases List.mem_append.1 hc0 with hc0 | hc0
    · exact k19_ok c0 hc0
    · rw [List.mem_singleton.1 hc0]
      intro φ w _
      have key := upd_any _ h1.ok (off k) ((stIt off gap p (⟨0, 0, 0, 0, 0, 0, 0⟩ : Dsc) k).now + gap k * 4294967296) p (ho k) ⟨by omega, by omega⟩ hp w
      have e0 : ρ.a 20 k 0 0 = off k := by rw [ha]; rfl
      have e1 : ρ.a 21 k 0 0 = gap k := by rw [ha]; rfl
      have e2 : SV.denL (ρ.on (lpSt off gap n p (⟨0, 0, 0, 0, 0, 0, 0⟩ : Dsc) k) [(stIt off gap p (⟨0, 0, 0, 0, 0, 0, 0⟩ : Dsc) k).all]) φ lpArgs = [stdS.den (envOf []) id, (stIt off gap p (⟨0, 0, 0, 0, 0, 0, 0⟩ : Dsc) k).d.val, .int .i64 (off k), .int .i64 ((stIt off gap p (⟨0, 0, 0, 0, 0, 0, 0⟩ : Dsc) k).now + gap k * 4294967296), .int .i64 p] := by
        rw [← e0, ← e1]; rfl
      show Calls _ _ (SV.denL _ φ lpArgs).toArray w _
      rw [e2]
      exact key
  · rw [← hρ]
    exact ⟨_, rfl⟩
  · exact ⟨[], rfl⟩
  · rintro m is bs ⟨k, hk, rfl, rfl, rfl⟩
    by_cases hlt : (k : Int) < n
    · exact .inl ⟨_, _, n.toNat - (k + 1), lpSt off gap n p (⟨0, 0, 0, 0, 0, 0, 0⟩ : Dsc) (k + 1), _, lpB_next ha hd ho hg hlt hn.2, by omega, ⟨k + 1, by omega, rfl, rfl, rfl⟩, ⟨_, rfl⟩, ⟨[], rfl⟩⟩
    · obtain rfl : k = n.toNat := by omega
      refine .inr ⟨lpLaw off gap n p (⟨0, 0, 0, 0, 0, 0, 0⟩ : Dsc), [], ?_, ?_⟩
      · have hlt' : ¬ ((n.toNat : Nat) : Int) < n := by omega
        simp only [lpBT, RT.out, BE.den, cmpI, IE.den, Env.on, lpSt, lpHd, lpLaw, Dsc.l, Upd.l, List.cons_append, List.nil_append, List.getD_cons_zero, List.getD_cons_succ, dens, bdens, List.map_cons, List.map_nil, decide_eq_false hlt', cond_false]
      · rw [← hρ]; exact envOf_has _ _ _ _ _ _
theorem lpB_walk {W : World} {v : Value} {B : Ext} {off gap : Int → Int} (hB : XIn [.int .i64, .int .u16] W v B [off, gap]) (ho : ∀ a, InI (off a)) (hg : ∀ a, 0 ≤ gap a ∧ gap a ≤ 65535) (hl : B.len ≤ 300) (p : Int) (hp : 0 ≤ p ∧ p ≤ 255) :
    Calls Try.prog 8 #[v, .bool false, .int .u8 p] W fun e w' => e = .returned (.bool true) ∧ Below W.heap.size W w' := by
  have hpos := hB.pos
  obtain ⟨g1, _, _⟩ := stIt_inv (p := p) lpB_start ho hg B.len hl
  have key := law_all (ρ := envOf (lpLaw off gap B.len p (⟨0, 0, 0, 0, 0, 0, 0⟩ : Dsc)) [] [] [] (apR [off, gap]) [some B]) (rg := lpR) (ar := lpAr) (f := 8) (args := [.xs 0, .bool (.lit false), .int .u8 (.var 1)])
    (by
      simp only [AllIn, lpLaw, Dsc.l, List.cons_append, List.nil_append, List.getD_cons_zero, List.getD_cons_succ, Int.toNat_natCast]
      exact ⟨⟨by omega, by omega⟩, hp, g1.ok.s, g1.ok.a, g1.ok.o, g1.ok.f, g1.ok.j, g1.ok.wa, g1.ok.re, trivial⟩)
    (numA_R rfl) (lp_arIn rfl ho hg) (cr := k19) k19_ok (lp := fun f p _ => if Nat.beq f 8 && decide (p = lpP) then some lpBL else none) ?_ (xs := lpXs) (xs_one (xok_one hB rfl rfl) rfl) (.leaf (.bool (.lit true))) (n := 600) (by kernel_rfl) rfl rfl W (ext_one hB rfl)
  · have e : SV.denL (envOf (lpLaw off gap B.len p (⟨0, 0, 0, 0, 0, 0, 0⟩ : Dsc)) [] [] [] (apR [off, gap]) [some B]) id [.xs 0, .bool (.lit false), .int .u8 (.var 1)] = [v, .bool false, .int .u8 p] := by
      rw [hB.val]; rfl
    rw [e] at key
    exact key
  · intro f p' u L hL c hc st hbl _ w0 φ0 st0 a w hr Q hQ
    dsimp only at hL
    split at hL
    · rename_i hfp
      simp only [Bool.and_eq_true, Nat.beq_eq, decide_eq_true_eq] at hfp
      obtain ⟨rfl, rfl⟩ := hfp
      cases hL
      exact lpB_loop hB ho hg B.len p ⟨by omega, by omega⟩ rfl hp hc hbl hr hQ
    · cases hL
theorem lp_empty (kn : Bool) (a : Option Addr) (cap : Nat) : (Tree.leaf (.bool (.lit true))).check Try.prog { pc := [], cr := k19 ++ crS, rg := [(0, 255)], ar := arN, ct := conCt [(0, 255)] arN consN } 600 8 [.raw (.slice a 0 cap), .bool (.lit kn), .int .u8 (.var 0)] = true := by
  cases kn <;> kernel_rfl
theorem loopSteps_walk {W : World} {v : Value} (hv : IsXs [.int .i64, .int .u16] W v) (p : Int) (kn : Bool) (hp : 0 ≤ p ∧ p ≤ 255) :
    Calls Try.prog 8 #[v, .bool kn, .int .u8 p] W fun e w' => e = .returned (.bool true) ∧ Below W.heap.size W w' := by
  rcases hv.rows with ⟨a, cap, rfl⟩ | ⟨B, rows, hB⟩
  · exact law_any (bs := []) (fs := []) (is := [p]) (rg := [(0, 255)]) (args := [.raw (.slice a 0 cap), .bool (.lit kn), .int .u8 (.var 0)]) ⟨hp, trivial⟩ (cr := k19) k19_ok _ (n := 600) (lp_empty kn a cap) rfl rfl W
  · obtain ⟨off, gap, rfl⟩ : ∃ off gap, rows = [off, gap] := by
      have := hB.len
      match rows, this with
      | [x, y], _ => exact ⟨x, y, rfl⟩
    have ho : ∀ a, InI (off a) := hB.rg 0 _ rfl
    have hg : ∀ a, 0 ≤ gap a ∧ gap a ≤ 65535 := hB.rg 1 _ rfl
    by_cases hl : B.len ≤ 300
    · cases kn
      · exact lpB_walk hB ho hg hl p hp
      · exact lpA_walk hB ho hg hl p hp
    · have hle := hB.le
      have key := law_all (ρ := envOf [(B.len : Int), p] [kn] [] [] (apR [off, gap]) [some B]) (rg := [(301, 9223372036854775807), (0, 255)]) (ar := lpAr) (f := 8) (args := [.xs 0, .bool (.var 0), .int .u8 (.var 1)])
        ⟨⟨by show (301 : Int) ≤ (B.len : Nat); omega, by show ((B.len : Nat) : Int) ≤ 9223372036854775807; unfold maxLen at hle; omega⟩, hp, trivial⟩ (numA_R rfl) (lp_arIn rfl ho hg) (cr := k19) k19_ok LpOk.none (xs := lpXs) (xs_one (xok_one hB rfl rfl) rfl) (.leaf (.bool (.lit true))) (n := 600) (by kernel_rfl) rfl rfl W (ext_one hB rfl)
      have e : SV.denL (envOf [(B.len : Int), p] [kn] [] [] (apR [off, gap]) [some B]) id [.xs 0, .bool (.var 0), .int .u8 (.var 1)] = [v, .bool kn, .int .u8 p] := by
        rw [hB.val]; rfl
      rw [e] at key
      exact key
end Go.Proofs.Ythhipnhnpjhaaaa
