/- Several texts in one. -/
import Derived.Test.YtopgidgkpafeeaaM21
/- Contracts of wide: the quotient. -/
namespace Go.Proofs.Ytopgidgkpafeeaa
open Go Go.RowKit Ev
set_option linter.unusedVariables false
set_option linter.unusedSimpArgs false
set_option maxRecDepth 100000

def dgA1L : LoopSum := ⟨[(.int .u64 (.var 4)), (.int .u64 (.var 5)), (.int .u64 (.var 3)), U0, U0, U0, (.int .u64 (.lit 0)), (.int .u64 (.lit 0)), (.bool (.lit false)), (.int .i64 (.var 18)), (.ptr 1048608 0), (.ptr 1048610 0), (.int .i64 (.lit 0)), (.int .u64 (.var 8)), (.int .u64 (.var 10)), (.int .u64 (.ar .sub .u64 (.var 4) (.pl .mul (.var 10) (.var 7)))), (.int .u64 (.var 0)), (.int .u64 (.var 2)), (.bool (.cmp .geq (.var 0) (.var 2))), (.int .u64 (.var 2)), (.int .i64 (.ap 0 (.var 2) (.lit 0) (.lit 0))), (.int .i64 (.var 18)), (.int .u64 (.var 2)), (.int .i64 (.var 18)), (.int .u64 (.var 3)), (.int .i64 (.var 18)), (.bool (.cmp .gtr (.var 18) (.lit 0))), (.int .u64 (.var 0)), (.int .i64 (.var 18)), (.int .u64 (.ar .shl .u64 (.var 0) (.var 18))), (.int .u64 (.var 1)), (.int .i64 (.var 18)), (.int .i64 (.pl .sub (.lit 64) (.var 18))), (.int .u64 (.ar .shr .u64 (.var 1) (.pl .sub (.lit 64) (.var 18)))), (.int .u64 (.var 4)), (.int .u64 (.var 1)), (.int .i64 (.var 18)), (.int .u64 (.var 5)), (.int .u64 (.var 3)), (.agg [(.int .u64 (.var 6)), (.int .u64 (.var 7))]), (.int .u64 (.var 5)), (.int .u64 (.var 8)), (.int .u64 (.var 5)), (.int .u64 (.var 9)), (.agg [(.int .u64 (.var 8)), (.int .u64 (.var 9))]), (.int .i64 (.lit 0)), (.bool (.lit true)), (.int .i64 (.lit 0)), (.int .u64 (.var 8)), (.int .u64 (.var 4)), (.ptr 1048608 1), (.int .u64 (.var 7)), (.int .u64 (.var 10)), (.int .u64 (.var 4)), (.int .u64 (.var 10)), (.ptr 1048608 1), (.int .u64 (.var 7)), (.int .u64 (.pl .mul (.var 10) (.var 7))), (.int .u64 (.ar .sub .u64 (.var 4) (.pl .mul (.var 10) (.var 7)))), U0, U0, U0, U0, U0, U0, U0, U0, U0, U0, U0, U0, U0, U0, U0, U0, U0, U0, U0, U0, U0, U0, U0, U0, U0, U0, U0, U0, U0, U0, U0, U0, U0, U0, U0, U0, U0, U0, U0, U0, U0, U0], [(1048610, ⟨144, [(.int .u64 (.lit 0)), (.int .u64 (.lit 0))]⟩), (1048608, ⟨144, [(.int .u64 (.var 6)), (.int .u64 (.var 7))]⟩)],
  (.exit 2), [(.int .u64 (.var 4)), (.int .u64 (.var 5)), (.int .u64 (.var 3)), U0, U0, U0, (.int .u64 (.lit 0)), (.int .u64 (.lit 0)), (.bool (.lit false)), (.int .i64 (.var 18)), (.ptr 1048608 0), (.ptr 1048610 0), (.int .i64 (.lit 0)), (.int .u64 (.var 8)), (.int .u64 (.var 12)), .any, (.int .u64 (.var 0)), (.int .u64 (.var 2)), (.bool (.cmp .geq (.var 0) (.var 2))), (.int .u64 (.var 2)), (.int .i64 (.ap 0 (.var 2) (.lit 0) (.lit 0))), (.int .i64 (.var 18)), (.int .u64 (.var 2)), (.int .i64 (.var 18)), (.int .u64 (.var 3)), (.int .i64 (.var 18)), (.bool (.cmp .gtr (.var 18) (.lit 0))), (.int .u64 (.var 0)), (.int .i64 (.var 18)), (.int .u64 (.ar .shl .u64 (.var 0) (.var 18))), (.int .u64 (.var 1)), (.int .i64 (.var 18)), (.int .i64 (.pl .sub (.lit 64) (.var 18))), (.int .u64 (.ar .shr .u64 (.var 1) (.pl .sub (.lit 64) (.var 18)))), (.int .u64 (.var 4)), (.int .u64 (.var 1)), (.int .i64 (.var 18)), (.int .u64 (.var 5)), (.int .u64 (.var 3)), (.agg [(.int .u64 (.var 6)), (.int .u64 (.var 7))]), (.int .u64 (.var 5)), (.int .u64 (.var 8)), (.int .u64 (.var 5)), (.int .u64 (.var 9)), (.agg [(.int .u64 (.var 8)), (.int .u64 (.var 9))]), (.int .i64 (.lit 0)), (.bool (.lit true)), (.int .i64 (.lit 0)), (.int .u64 (.var 8)), (.int .u64 (.var 4)), (.ptr 1048608 1), (.int .u64 (.var 7)), (.int .u64 (.var 10)), (.int .u64 (.var 4)), (.int .u64 (.var 10)), (.ptr 1048608 1), (.int .u64 (.var 7)), (.int .u64 (.pl .mul (.var 10) (.var 7))), (.int .u64 (.ar .sub .u64 (.var 4) (.pl .mul (.var 10) (.var 7)))), .any, .any, .any, .any, .any, .any, .any, .any, .any, .any, .any, .any, .any, .any, .any, .any, .any, .any, .any, .any, .any, U0, U0, U0, U0, U0, U0, U0, U0, U0, U0, U0, U0, U0, U0, U0, U0, U0, U0, U0, U0, U0], [(1048610, ⟨144, [(.int .u64 (.lit 0)), (.int .u64 (.lit 0))]⟩), (1048608, ⟨144, [(.int .u64 (.var 6)), (.int .u64 (.var 7))]⟩)]⟩
def dgA1H : St := ⟨Tm.ofL [(.int .u64 (.var 4)), (.int .u64 (.var 5)), (.int .u64 (.var 3)), U0, U0, U0, (.int .u64 (.lit 0)), (.int .u64 (.lit 0)), (.bool (.lit false)), (.int .i64 (.var 18)), (.ptr 1048608 0), (.ptr 1048610 0), (.int .i64 (.lit 0)), (.int .u64 (.var 8)), (.int .u64 (.var 19)), (.int .u64 (.var 20)), (.int .u64 (.var 0)), (.int .u64 (.var 2)), (.bool (.cmp .geq (.var 0) (.var 2))), (.int .u64 (.var 2)), (.int .i64 (.ap 0 (.var 2) (.lit 0) (.lit 0))), (.int .i64 (.var 18)), (.int .u64 (.var 2)), (.int .i64 (.var 18)), (.int .u64 (.var 3)), (.int .i64 (.var 18)), (.bool (.cmp .gtr (.var 18) (.lit 0))), (.int .u64 (.var 0)), (.int .i64 (.var 18)), (.int .u64 (.ar .shl .u64 (.var 0) (.var 18))), (.int .u64 (.var 1)), (.int .i64 (.var 18)), (.int .i64 (.pl .sub (.lit 64) (.var 18))), (.int .u64 (.ar .shr .u64 (.var 1) (.pl .sub (.lit 64) (.var 18)))), (.int .u64 (.var 4)), (.int .u64 (.var 1)), (.int .i64 (.var 18)), (.int .u64 (.var 5)), (.int .u64 (.var 3)), (.agg [(.int .u64 (.var 6)), (.int .u64 (.var 7))]), (.int .u64 (.var 5)), (.int .u64 (.var 8)), (.int .u64 (.var 5)), (.int .u64 (.var 9)), (.agg [(.int .u64 (.var 8)), (.int .u64 (.var 9))]), (.int .i64 (.lit 0)), (.bool (.lit true)), (.int .i64 (.lit 0)), (.int .u64 (.var 8)), (.int .u64 (.var 4)), (.ptr 1048608 1), (.int .u64 (.var 7)), (.int .u64 (.var 10)), (.int .u64 (.var 4)), (.int .u64 (.var 10)), (.ptr 1048608 1), (.int .u64 (.var 7)), (.int .u64 (.pl .mul (.var 10) (.var 7))), (.int .u64 (.ar .sub .u64 (.var 4) (.pl .mul (.var 10) (.var 7)))), .any, .any, .any, .any, .any, .any, .any, .any, .any, .any, .any, .any, .any, .any, .any, .any, .any, .any, .any, .any, .any, U0, U0, U0, U0, U0, U0, U0, U0, U0, U0, U0, U0, U0, U0, U0, U0, U0, U0, U0, U0, U0], [(1048610, ⟨144, [(.int .u64 (.lit 0)), (.int .u64 (.lit 0))]⟩), (1048608, ⟨144, [(.int .u64 (.var 6)), (.int .u64 (.var 7))]⟩)]⟩
def dgA1E : List IE := [(.var 0), (.var 1), (.var 2), (.var 3), (.var 4), (.var 5), (.var 6), (.var 7), (.var 8), (.var 9), (.var 10), (.var 11), (.var 12), (.var 13), (.var 14), (.var 15), (.var 16), (.var 17), (.var 18), (.var 10), (.ar .sub .u64 (.var 4) (.pl .mul (.var 10) (.var 7)))]
def dgA1B : List BE := []
def dgA1T : RT :=
(.node (.cmp .lss (.lit 4294967295) (.var 19))
 (.node (.cmp .lss (.lit 4294967295) (.pl .add (.var 20) (.var 7)))
 (.stop [(.var 0), (.var 1), (.var 2), (.var 3), (.var 4), (.var 5), (.var 6), (.var 7), (.var 8), (.var 9), (.var 10), (.var 11), (.pl .sub (.var 19) (.lit 1)), (.var 13), (.var 14), (.var 15), (.var 16), (.var 17), (.var 18)] [])
 (.go [(.var 0), (.var 1), (.var 2), (.var 3), (.var 4), (.var 5), (.var 6), (.var 7), (.var 8), (.var 9), (.var 10), (.var 11), (.var 12), (.var 13), (.var 14), (.var 15), (.var 16), (.var 17), (.var 18), (.pl .sub (.var 19) (.lit 1)), (.pl .add (.var 20) (.var 7))] []))
 (.node (.cmp .lss (.ar .or .u64 (.ar .shl .u64 (.var 20) (.lit 32)) (.var 8)) (.pl .mul (.var 19) (.var 6)))
 (.node (.cmp .lss (.lit 4294967295) (.pl .add (.var 20) (.var 7)))
 (.stop [(.var 0), (.var 1), (.var 2), (.var 3), (.var 4), (.var 5), (.var 6), (.var 7), (.var 8), (.var 9), (.var 10), (.var 11), (.ar .sub .u64 (.var 19) (.lit 1)), (.var 13), (.var 14), (.var 15), (.var 16), (.var 17), (.var 18)] [])
 (.go [(.var 0), (.var 1), (.var 2), (.var 3), (.var 4), (.var 5), (.var 6), (.var 7), (.var 8), (.var 9), (.var 10), (.var 11), (.var 12), (.var 13), (.var 14), (.var 15), (.var 16), (.var 17), (.var 18), (.ar .sub .u64 (.var 19) (.lit 1)), (.pl .add (.var 20) (.var 7))] []))
 (.stop [(.var 0), (.var 1), (.var 2), (.var 3), (.var 4), (.var 5), (.var 6), (.var 7), (.var 8), (.var 9), (.var 10), (.var 11), (.var 19), (.var 13), (.var 14), (.var 15), (.var 16), (.var 17), (.var 18)] [])))
def dgA2L : LoopSum := ⟨[(.int .u64 (.var 13)), (.int .u64 (.var 5)), (.int .u64 (.var 3)), U0, U0, U0, (.int .u64 (.lit 0)), (.int .u64 (.lit 0)), (.bool (.lit false)), (.int .i64 (.var 18)), (.ptr 1048608 0), (.ptr 1048610 0), (.int .i64 (.lit 1)), (.int .u64 (.var 9)), (.int .u64 (.var 14)), (.int .u64 (.ar .sub .u64 (.var 13) (.pl .mul (.var 14) (.var 7)))), (.int .u64 (.var 0)), (.int .u64 (.var 2)), (.bool (.cmp .geq (.var 0) (.var 2))), (.int .u64 (.var 2)), (.int .i64 (.ap 0 (.var 2) (.lit 0) (.lit 0))), (.int .i64 (.var 18)), (.int .u64 (.var 2)), (.int .i64 (.var 18)), (.int .u64 (.var 3)), (.int .i64 (.var 18)), (.bool (.cmp .gtr (.var 18) (.lit 0))), (.int .u64 (.var 0)), (.int .i64 (.var 18)), (.int .u64 (.ar .shl .u64 (.var 0) (.var 18))), (.int .u64 (.var 1)), (.int .i64 (.var 18)), (.int .i64 (.pl .sub (.lit 64) (.var 18))), (.int .u64 (.ar .shr .u64 (.var 1) (.pl .sub (.lit 64) (.var 18)))), (.int .u64 (.var 4)), (.int .u64 (.var 1)), (.int .i64 (.var 18)), (.int .u64 (.var 5)), (.int .u64 (.var 3)), (.agg [(.int .u64 (.var 6)), (.int .u64 (.var 7))]), (.int .u64 (.var 5)), (.int .u64 (.var 8)), (.int .u64 (.var 5)), (.int .u64 (.var 9)), (.agg [(.int .u64 (.var 8)), (.int .u64 (.var 9))]), (.int .i64 (.lit 1)), (.bool (.lit true)), (.int .i64 (.lit 1)), (.int .u64 (.var 9)), (.int .u64 (.var 13)), (.ptr 1048608 1), (.int .u64 (.var 7)), (.int .u64 (.var 14)), (.int .u64 (.var 13)), (.int .u64 (.var 14)), (.ptr 1048608 1), (.int .u64 (.var 7)), (.int .u64 (.pl .mul (.var 14) (.var 7))), (.int .u64 (.ar .sub .u64 (.var 13) (.pl .mul (.var 14) (.var 7)))), .any, .any, .any, .any, .any, .any, .any, .any, .any, .any, .any, .any, .any, .any, .any, .any, .any, .any, .any, .any, .any, (.int .i64 (.lit 0)), (.int .u64 (.var 12)), (.ptr 1048610 0), (.int .u64 (.var 4)), (.int .u64 (.ar .shl .u64 (.var 4) (.lit 32))), (.int .u64 (.var 8)), (.int .u64 (.ar .add .u64 (.ar .shl .u64 (.var 4) (.lit 32)) (.var 8))), (.int .u64 (.var 12)), (.int .u64 (.var 3)), (.int .u64 (.ar .mul .u64 (.var 12) (.var 3))), (.int .u64 (.var 13)), (.int .i64 (.lit 1)), U0, U0, U0, U0, U0, U0, U0, U0, U0], [(1048610, ⟨144, [(.int .u64 (.var 12)), (.int .u64 (.lit 0))]⟩), (1048608, ⟨144, [(.int .u64 (.var 6)), (.int .u64 (.var 7))]⟩)],
  (.exit 2), [(.int .u64 (.var 13)), (.int .u64 (.var 5)), (.int .u64 (.var 3)), U0, U0, U0, (.int .u64 (.lit 0)), (.int .u64 (.lit 0)), (.bool (.lit false)), (.int .i64 (.var 18)), (.ptr 1048608 0), (.ptr 1048610 0), (.int .i64 (.lit 1)), (.int .u64 (.var 9)), (.int .u64 (.var 16)), .any, (.int .u64 (.var 0)), (.int .u64 (.var 2)), (.bool (.cmp .geq (.var 0) (.var 2))), (.int .u64 (.var 2)), (.int .i64 (.ap 0 (.var 2) (.lit 0) (.lit 0))), (.int .i64 (.var 18)), (.int .u64 (.var 2)), (.int .i64 (.var 18)), (.int .u64 (.var 3)), (.int .i64 (.var 18)), (.bool (.cmp .gtr (.var 18) (.lit 0))), (.int .u64 (.var 0)), (.int .i64 (.var 18)), (.int .u64 (.ar .shl .u64 (.var 0) (.var 18))), (.int .u64 (.var 1)), (.int .i64 (.var 18)), (.int .i64 (.pl .sub (.lit 64) (.var 18))), (.int .u64 (.ar .shr .u64 (.var 1) (.pl .sub (.lit 64) (.var 18)))), (.int .u64 (.var 4)), (.int .u64 (.var 1)), (.int .i64 (.var 18)), (.int .u64 (.var 5)), (.int .u64 (.var 3)), (.agg [(.int .u64 (.var 6)), (.int .u64 (.var 7))]), (.int .u64 (.var 5)), (.int .u64 (.var 8)), (.int .u64 (.var 5)), (.int .u64 (.var 9)), (.agg [(.int .u64 (.var 8)), (.int .u64 (.var 9))]), (.int .i64 (.lit 1)), (.bool (.lit true)), (.int .i64 (.lit 1)), (.int .u64 (.var 9)), (.int .u64 (.var 13)), (.ptr 1048608 1), (.int .u64 (.var 7)), (.int .u64 (.var 14)), (.int .u64 (.var 13)), (.int .u64 (.var 14)), (.ptr 1048608 1), (.int .u64 (.var 7)), (.int .u64 (.pl .mul (.var 14) (.var 7))), (.int .u64 (.ar .sub .u64 (.var 13) (.pl .mul (.var 14) (.var 7)))), .any, .any, .any, .any, .any, .any, .any, .any, .any, .any, .any, .any, .any, .any, .any, .any, .any, .any, .any, .any, .any, (.int .i64 (.lit 0)), (.int .u64 (.var 12)), (.ptr 1048610 0), (.int .u64 (.var 4)), (.int .u64 (.ar .shl .u64 (.var 4) (.lit 32))), (.int .u64 (.var 8)), (.int .u64 (.ar .add .u64 (.ar .shl .u64 (.var 4) (.lit 32)) (.var 8))), (.int .u64 (.var 12)), (.int .u64 (.var 3)), (.int .u64 (.ar .mul .u64 (.var 12) (.var 3))), (.int .u64 (.var 13)), (.int .i64 (.lit 1)), U0, U0, U0, U0, U0, U0, U0, U0, U0], [(1048610, ⟨144, [(.int .u64 (.var 12)), (.int .u64 (.lit 0))]⟩), (1048608, ⟨144, [(.int .u64 (.var 6)), (.int .u64 (.var 7))]⟩)]⟩
def dgA2H : St := ⟨Tm.ofL [(.int .u64 (.var 13)), (.int .u64 (.var 5)), (.int .u64 (.var 3)), U0, U0, U0, (.int .u64 (.lit 0)), (.int .u64 (.lit 0)), (.bool (.lit false)), (.int .i64 (.var 18)), (.ptr 1048608 0), (.ptr 1048610 0), (.int .i64 (.lit 1)), (.int .u64 (.var 9)), (.int .u64 (.var 19)), (.int .u64 (.var 20)), (.int .u64 (.var 0)), (.int .u64 (.var 2)), (.bool (.cmp .geq (.var 0) (.var 2))), (.int .u64 (.var 2)), (.int .i64 (.ap 0 (.var 2) (.lit 0) (.lit 0))), (.int .i64 (.var 18)), (.int .u64 (.var 2)), (.int .i64 (.var 18)), (.int .u64 (.var 3)), (.int .i64 (.var 18)), (.bool (.cmp .gtr (.var 18) (.lit 0))), (.int .u64 (.var 0)), (.int .i64 (.var 18)), (.int .u64 (.ar .shl .u64 (.var 0) (.var 18))), (.int .u64 (.var 1)), (.int .i64 (.var 18)), (.int .i64 (.pl .sub (.lit 64) (.var 18))), (.int .u64 (.ar .shr .u64 (.var 1) (.pl .sub (.lit 64) (.var 18)))), (.int .u64 (.var 4)), (.int .u64 (.var 1)), (.int .i64 (.var 18)), (.int .u64 (.var 5)), (.int .u64 (.var 3)), (.agg [(.int .u64 (.var 6)), (.int .u64 (.var 7))]), (.int .u64 (.var 5)), (.int .u64 (.var 8)), (.int .u64 (.var 5)), (.int .u64 (.var 9)), (.agg [(.int .u64 (.var 8)), (.int .u64 (.var 9))]), (.int .i64 (.lit 1)), (.bool (.lit true)), (.int .i64 (.lit 1)), (.int .u64 (.var 9)), (.int .u64 (.var 13)), (.ptr 1048608 1), (.int .u64 (.var 7)), (.int .u64 (.var 14)), (.int .u64 (.var 13)), (.int .u64 (.var 14)), (.ptr 1048608 1), (.int .u64 (.var 7)), (.int .u64 (.pl .mul (.var 14) (.var 7))), (.int .u64 (.ar .sub .u64 (.var 13) (.pl .mul (.var 14) (.var 7)))), .any, .any, .any, .any, .any, .any, .any, .any, .any, .any, .any, .any, .any, .any, .any, .any, .any, .any, .any, .any, .any, (.int .i64 (.lit 0)), (.int .u64 (.var 12)), (.ptr 1048610 0), (.int .u64 (.var 4)), (.int .u64 (.ar .shl .u64 (.var 4) (.lit 32))), (.int .u64 (.var 8)), (.int .u64 (.ar .add .u64 (.ar .shl .u64 (.var 4) (.lit 32)) (.var 8))), (.int .u64 (.var 12)), (.int .u64 (.var 3)), (.int .u64 (.ar .mul .u64 (.var 12) (.var 3))), (.int .u64 (.var 13)), (.int .i64 (.lit 1)), U0, U0, U0, U0, U0, U0, U0, U0, U0], [(1048610, ⟨144, [(.int .u64 (.var 12)), (.int .u64 (.lit 0))]⟩), (1048608, ⟨144, [(.int .u64 (.var 6)), (.int .u64 (.var 7))]⟩)]⟩
def dgA2E : List IE := [(.var 0), (.var 1), (.var 2), (.var 3), (.var 4), (.var 5), (.var 6), (.var 7), (.var 8), (.var 9), (.var 10), (.var 11), (.var 12), (.var 13), (.var 14), (.var 15), (.var 16), (.var 17), (.var 18), (.var 14), (.ar .sub .u64 (.var 13) (.pl .mul (.var 14) (.var 7)))]
def dgA2B : List BE := []
def dgA2T : RT :=
(.node (.cmp .lss (.lit 4294967295) (.var 19))
 (.node (.cmp .lss (.lit 4294967295) (.pl .add (.var 20) (.var 7)))
 (.stop [(.var 0), (.var 1), (.var 2), (.var 3), (.var 4), (.var 5), (.var 6), (.var 7), (.var 8), (.var 9), (.var 10), (.var 11), (.var 12), (.var 13), (.var 14), (.var 15), (.pl .sub (.var 19) (.lit 1)), (.var 17), (.var 18)] [])
 (.go [(.var 0), (.var 1), (.var 2), (.var 3), (.var 4), (.var 5), (.var 6), (.var 7), (.var 8), (.var 9), (.var 10), (.var 11), (.var 12), (.var 13), (.var 14), (.var 15), (.var 16), (.var 17), (.var 18), (.pl .sub (.var 19) (.lit 1)), (.pl .add (.var 20) (.var 7))] []))
 (.node (.cmp .lss (.ar .or .u64 (.ar .shl .u64 (.var 20) (.lit 32)) (.var 9)) (.pl .mul (.var 19) (.var 6)))
 (.node (.cmp .lss (.lit 4294967295) (.pl .add (.var 20) (.var 7)))
 (.stop [(.var 0), (.var 1), (.var 2), (.var 3), (.var 4), (.var 5), (.var 6), (.var 7), (.var 8), (.var 9), (.var 10), (.var 11), (.var 12), (.var 13), (.var 14), (.var 15), (.ar .sub .u64 (.var 19) (.lit 1)), (.var 17), (.var 18)] [])
 (.go [(.var 0), (.var 1), (.var 2), (.var 3), (.var 4), (.var 5), (.var 6), (.var 7), (.var 8), (.var 9), (.var 10), (.var 11), (.var 12), (.var 13), (.var 14), (.var 15), (.var 16), (.var 17), (.var 18), (.ar .sub .u64 (.var 19) (.lit 1)), (.pl .add (.var 20) (.var 7))] []))
 (.stop [(.var 0), (.var 1), (.var 2), (.var 3), (.var 4), (.var 5), (.var 6), (.var 7), (.var 8), (.var 9), (.var 10), (.var 11), (.var 12), (.var 13), (.var 14), (.var 15), (.var 19), (.var 17), (.var 18)] [])))
def dgB1L : LoopSum := ⟨[(.int .u64 (.var 0)), (.int .u64 (.var 1)), (.int .u64 (.var 3)), U0, U0, U0, (.int .u64 (.lit 0)), (.int .u64 (.lit 0)), (.bool (.lit false)), (.int .i64 (.var 18)), (.ptr 1048595 0), (.ptr 1048597 0), (.int .i64 (.lit 0)), (.int .u64 (.var 8)), (.int .u64 (.var 10)), (.int .u64 (.ar .sub .u64 (.var 0) (.pl .mul (.var 10) (.var 7)))), (.int .u64 (.var 0)), (.int .u64 (.var 2)), (.bool (.cmp .geq (.var 0) (.var 2))), (.int .u64 (.var 2)), (.int .i64 (.ap 0 (.var 2) (.lit 0) (.lit 0))), (.int .i64 (.var 18)), (.int .u64 (.var 2)), (.int .i64 (.var 18)), (.int .u64 (.var 3)), (.int .i64 (.var 18)), (.bool (.cmp .gtr (.var 18) (.lit 0))), U0, U0, U0, U0, U0, U0, U0, U0, U0, U0, U0, (.int .u64 (.var 3)), (.agg [(.int .u64 (.var 6)), (.int .u64 (.var 7))]), (.int .u64 (.var 1)), (.int .u64 (.var 8)), (.int .u64 (.var 1)), (.int .u64 (.var 9)), (.agg [(.int .u64 (.var 8)), (.int .u64 (.var 9))]), (.int .i64 (.lit 0)), (.bool (.lit true)), (.int .i64 (.lit 0)), (.int .u64 (.var 8)), (.int .u64 (.var 0)), (.ptr 1048595 1), (.int .u64 (.var 7)), (.int .u64 (.var 10)), (.int .u64 (.var 0)), (.int .u64 (.var 10)), (.ptr 1048595 1), (.int .u64 (.var 7)), (.int .u64 (.pl .mul (.var 10) (.var 7))), (.int .u64 (.ar .sub .u64 (.var 0) (.pl .mul (.var 10) (.var 7)))), U0, U0, U0, U0, U0, U0, U0, U0, U0, U0, U0, U0, U0, U0, U0, U0, U0, U0, U0, U0, U0, U0, U0, U0, U0, U0, U0, U0, U0, U0, U0, U0, U0, U0, U0, U0, U0, U0, U0, U0, U0, U0], [(1048597, ⟨144, [(.int .u64 (.lit 0)), (.int .u64 (.lit 0))]⟩), (1048595, ⟨144, [(.int .u64 (.var 6)), (.int .u64 (.var 7))]⟩)],
  (.exit 2), [(.int .u64 (.var 0)), (.int .u64 (.var 1)), (.int .u64 (.var 3)), U0, U0, U0, (.int .u64 (.lit 0)), (.int .u64 (.lit 0)), (.bool (.lit false)), (.int .i64 (.var 18)), (.ptr 1048595 0), (.ptr 1048597 0), (.int .i64 (.lit 0)), (.int .u64 (.var 8)), (.int .u64 (.var 12)), .any, (.int .u64 (.var 0)), (.int .u64 (.var 2)), (.bool (.cmp .geq (.var 0) (.var 2))), (.int .u64 (.var 2)), (.int .i64 (.ap 0 (.var 2) (.lit 0) (.lit 0))), (.int .i64 (.var 18)), (.int .u64 (.var 2)), (.int .i64 (.var 18)), (.int .u64 (.var 3)), (.int .i64 (.var 18)), (.bool (.cmp .gtr (.var 18) (.lit 0))), U0, U0, U0, U0, U0, U0, U0, U0, U0, U0, U0, (.int .u64 (.var 3)), (.agg [(.int .u64 (.var 6)), (.int .u64 (.var 7))]), (.int .u64 (.var 1)), (.int .u64 (.var 8)), (.int .u64 (.var 1)), (.int .u64 (.var 9)), (.agg [(.int .u64 (.var 8)), (.int .u64 (.var 9))]), (.int .i64 (.lit 0)), (.bool (.lit true)), (.int .i64 (.lit 0)), (.int .u64 (.var 8)), (.int .u64 (.var 0)), (.ptr 1048595 1), (.int .u64 (.var 7)), (.int .u64 (.var 10)), (.int .u64 (.var 0)), (.int .u64 (.var 10)), (.ptr 1048595 1), (.int .u64 (.var 7)), (.int .u64 (.pl .mul (.var 10) (.var 7))), (.int .u64 (.ar .sub .u64 (.var 0) (.pl .mul (.var 10) (.var 7)))), .any, .any, .any, .any, .any, .any, .any, .any, .any, .any, .any, .any, .any, .any, .any, .any, .any, .any, .any, .any, .any, U0, U0, U0, U0, U0, U0, U0, U0, U0, U0, U0, U0, U0, U0, U0, U0, U0, U0, U0, U0, U0], [(1048597, ⟨144, [(.int .u64 (.lit 0)), (.int .u64 (.lit 0))]⟩), (1048595, ⟨144, [(.int .u64 (.var 6)), (.int .u64 (.var 7))]⟩)]⟩
def dgB1H : St := ⟨Tm.ofL [(.int .u64 (.var 0)), (.int .u64 (.var 1)), (.int .u64 (.var 3)), U0, U0, U0, (.int .u64 (.lit 0)), (.int .u64 (.lit 0)), (.bool (.lit false)), (.int .i64 (.var 18)), (.ptr 1048595 0), (.ptr 1048597 0), (.int .i64 (.lit 0)), (.int .u64 (.var 8)), (.int .u64 (.var 19)), (.int .u64 (.var 20)), (.int .u64 (.var 0)), (.int .u64 (.var 2)), (.bool (.cmp .geq (.var 0) (.var 2))), (.int .u64 (.var 2)), (.int .i64 (.ap 0 (.var 2) (.lit 0) (.lit 0))), (.int .i64 (.var 18)), (.int .u64 (.var 2)), (.int .i64 (.var 18)), (.int .u64 (.var 3)), (.int .i64 (.var 18)), (.bool (.cmp .gtr (.var 18) (.lit 0))), U0, U0, U0, U0, U0, U0, U0, U0, U0, U0, U0, (.int .u64 (.var 3)), (.agg [(.int .u64 (.var 6)), (.int .u64 (.var 7))]), (.int .u64 (.var 1)), (.int .u64 (.var 8)), (.int .u64 (.var 1)), (.int .u64 (.var 9)), (.agg [(.int .u64 (.var 8)), (.int .u64 (.var 9))]), (.int .i64 (.lit 0)), (.bool (.lit true)), (.int .i64 (.lit 0)), (.int .u64 (.var 8)), (.int .u64 (.var 0)), (.ptr 1048595 1), (.int .u64 (.var 7)), (.int .u64 (.var 10)), (.int .u64 (.var 0)), (.int .u64 (.var 10)), (.ptr 1048595 1), (.int .u64 (.var 7)), (.int .u64 (.pl .mul (.var 10) (.var 7))), (.int .u64 (.ar .sub .u64 (.var 0) (.pl .mul (.var 10) (.var 7)))), .any, .any, .any, .any, .any, .any, .any, .any, .any, .any, .any, .any, .any, .any, .any, .any, .any, .any, .any, .any, .any, U0, U0, U0, U0, U0, U0, U0, U0, U0, U0, U0, U0, U0, U0, U0, U0, U0, U0, U0, U0, U0], [(1048597, ⟨144, [(.int .u64 (.lit 0)), (.int .u64 (.lit 0))]⟩), (1048595, ⟨144, [(.int .u64 (.var 6)), (.int .u64 (.var 7))]⟩)]⟩
def dgB1E : List IE := [(.var 0), (.var 1), (.var 2), (.var 3), (.var 4), (.var 5), (.var 6), (.var 7), (.var 8), (.var 9), (.var 10), (.var 11), (.var 12), (.var 13), (.var 14), (.var 15), (.var 16), (.var 17), (.var 18), (.var 10), (.ar .sub .u64 (.var 0) (.pl .mul (.var 10) (.var 7)))]
def dgB1B : List BE := []
def dgB1T : RT :=
(.node (.cmp .lss (.lit 4294967295) (.var 19))
 (.node (.cmp .lss (.lit 4294967295) (.pl .add (.var 20) (.var 7)))
 (.stop [(.var 0), (.var 1), (.var 2), (.var 3), (.var 4), (.var 5), (.var 6), (.var 7), (.var 8), (.var 9), (.var 10), (.var 11), (.pl .sub (.var 19) (.lit 1)), (.var 13), (.var 14), (.var 15), (.var 16), (.var 17), (.var 18)] [])
 (.go [(.var 0), (.var 1), (.var 2), (.var 3), (.var 4), (.var 5), (.var 6), (.var 7), (.var 8), (.var 9), (.var 10), (.var 11), (.var 12), (.var 13), (.var 14), (.var 15), (.var 16), (.var 17), (.var 18), (.pl .sub (.var 19) (.lit 1)), (.pl .add (.var 20) (.var 7))] []))
 (.node (.cmp .lss (.ar .or .u64 (.ar .shl .u64 (.var 20) (.lit 32)) (.var 8)) (.pl .mul (.var 19) (.var 6)))
 (.node (.cmp .lss (.lit 4294967295) (.pl .add (.var 20) (.var 7)))
 (.stop [(.var 0), (.var 1), (.var 2), (.var 3), (.var 4), (.var 5), (.var 6), (.var 7), (.var 8), (.var 9), (.var 10), (.var 11), (.ar .sub .u64 (.var 19) (.lit 1)), (.var 13), (.var 14), (.var 15), (.var 16), (.var 17), (.var 18)] [])
 (.go [(.var 0), (.var 1), (.var 2), (.var 3), (.var 4), (.var 5), (.var 6), (.var 7), (.var 8), (.var 9), (.var 10), (.var 11), (.var 12), (.var 13), (.var 14), (.var 15), (.var 16), (.var 17), (.var 18), (.ar .sub .u64 (.var 19) (.lit 1)), (.pl .add (.var 20) (.var 7))] []))
 (.stop [(.var 0), (.var 1), (.var 2), (.var 3), (.var 4), (.var 5), (.var 6), (.var 7), (.var 8), (.var 9), (.var 10), (.var 11), (.var 19), (.var 13), (.var 14), (.var 15), (.var 16), (.var 17), (.var 18)] [])))
def dgB2L : LoopSum := ⟨[(.int .u64 (.var 13)), (.int .u64 (.var 1)), (.int .u64 (.var 3)), U0, U0, U0, (.int .u64 (.lit 0)), (.int .u64 (.lit 0)), (.bool (.lit false)), (.int .i64 (.var 18)), (.ptr 1048595 0), (.ptr 1048597 0), (.int .i64 (.lit 1)), (.int .u64 (.var 9)), (.int .u64 (.var 14)), (.int .u64 (.ar .sub .u64 (.var 13) (.pl .mul (.var 14) (.var 7)))), (.int .u64 (.var 0)), (.int .u64 (.var 2)), (.bool (.cmp .geq (.var 0) (.var 2))), (.int .u64 (.var 2)), (.int .i64 (.ap 0 (.var 2) (.lit 0) (.lit 0))), (.int .i64 (.var 18)), (.int .u64 (.var 2)), (.int .i64 (.var 18)), (.int .u64 (.var 3)), (.int .i64 (.var 18)), (.bool (.cmp .gtr (.var 18) (.lit 0))), U0, U0, U0, U0, U0, U0, U0, U0, U0, U0, U0, (.int .u64 (.var 3)), (.agg [(.int .u64 (.var 6)), (.int .u64 (.var 7))]), (.int .u64 (.var 1)), (.int .u64 (.var 8)), (.int .u64 (.var 1)), (.int .u64 (.var 9)), (.agg [(.int .u64 (.var 8)), (.int .u64 (.var 9))]), (.int .i64 (.lit 1)), (.bool (.lit true)), (.int .i64 (.lit 1)), (.int .u64 (.var 9)), (.int .u64 (.var 13)), (.ptr 1048595 1), (.int .u64 (.var 7)), (.int .u64 (.var 14)), (.int .u64 (.var 13)), (.int .u64 (.var 14)), (.ptr 1048595 1), (.int .u64 (.var 7)), (.int .u64 (.pl .mul (.var 14) (.var 7))), (.int .u64 (.ar .sub .u64 (.var 13) (.pl .mul (.var 14) (.var 7)))), .any, .any, .any, .any, .any, .any, .any, .any, .any, .any, .any, .any, .any, .any, .any, .any, .any, .any, .any, .any, .any, (.int .i64 (.lit 0)), (.int .u64 (.var 12)), (.ptr 1048597 0), (.int .u64 (.var 0)), (.int .u64 (.ar .shl .u64 (.var 0) (.lit 32))), (.int .u64 (.var 8)), (.int .u64 (.ar .add .u64 (.ar .shl .u64 (.var 0) (.lit 32)) (.var 8))), (.int .u64 (.var 12)), (.int .u64 (.var 3)), (.int .u64 (.ar .mul .u64 (.var 12) (.var 3))), (.int .u64 (.var 13)), (.int .i64 (.lit 1)), U0, U0, U0, U0, U0, U0, U0, U0, U0], [(1048597, ⟨144, [(.int .u64 (.var 12)), (.int .u64 (.lit 0))]⟩), (1048595, ⟨144, [(.int .u64 (.var 6)), (.int .u64 (.var 7))]⟩)],
  (.exit 2), [(.int .u64 (.var 13)), (.int .u64 (.var 1)), (.int .u64 (.var 3)), U0, U0, U0, (.int .u64 (.lit 0)), (.int .u64 (.lit 0)), (.bool (.lit false)), (.int .i64 (.var 18)), (.ptr 1048595 0), (.ptr 1048597 0), (.int .i64 (.lit 1)), (.int .u64 (.var 9)), (.int .u64 (.var 16)), .any, (.int .u64 (.var 0)), (.int .u64 (.var 2)), (.bool (.cmp .geq (.var 0) (.var 2))), (.int .u64 (.var 2)), (.int .i64 (.ap 0 (.var 2) (.lit 0) (.lit 0))), (.int .i64 (.var 18)), (.int .u64 (.var 2)), (.int .i64 (.var 18)), (.int .u64 (.var 3)), (.int .i64 (.var 18)), (.bool (.cmp .gtr (.var 18) (.lit 0))), U0, U0, U0, U0, U0, U0, U0, U0, U0, U0, U0, (.int .u64 (.var 3)), (.agg [(.int .u64 (.var 6)), (.int .u64 (.var 7))]), (.int .u64 (.var 1)), (.int .u64 (.var 8)), (.int .u64 (.var 1)), (.int .u64 (.var 9)), (.agg [(.int .u64 (.var 8)), (.int .u64 (.var 9))]), (.int .i64 (.lit 1)), (.bool (.lit true)), (.int .i64 (.lit 1)), (.int .u64 (.var 9)), (.int .u64 (.var 13)), (.ptr 1048595 1), (.int .u64 (.var 7)), (.int .u64 (.var 14)), (.int .u64 (.var 13)), (.int .u64 (.var 14)), (.ptr 1048595 1), (.int .u64 (.var 7)), (.int .u64 (.pl .mul (.var 14) (.var 7))), (.int .u64 (.ar .sub .u64 (.var 13) (.pl .mul (.var 14) (.var 7)))), .any, .any, .any, .any, .any, .any, .any, .any, .any, .any, .any, .any, .any, .any, .any, .any, .any, .any, .any, .any, .any, (.int .i64 (.lit 0)), (.int .u64 (.var 12)), (.ptr 1048597 0), (.int .u64 (.var 0)), (.int .u64 (.ar .shl .u64 (.var 0) (.lit 32))), (.int .u64 (.var 8)), (.int .u64 (.ar .add .u64 (.ar .shl .u64 (.var 0) (.lit 32)) (.var 8))), (.int .u64 (.var 12)), (.int .u64 (.var 3)), (.int .u64 (.ar .mul .u64 (.var 12) (.var 3))), (.int .u64 (.var 13)), (.int .i64 (.lit 1)), U0, U0, U0, U0, U0, U0, U0, U0, U0], [(1048597, ⟨144, [(.int .u64 (.var 12)), (.int .u64 (.lit 0))]⟩), (1048595, ⟨144, [(.int .u64 (.var 6)), (.int .u64 (.var 7))]⟩)]⟩
def dgB2H : St := ⟨Tm.ofL [(.int .u64 (.var 13)), (.int .u64 (.var 1)), (.int .u64 (.var 3)), U0, U0, U0, (.int .u64 (.lit 0)), (.int .u64 (.lit 0)), (.bool (.lit false)), (.int .i64 (.var 18)), (.ptr 1048595 0), (.ptr 1048597 0), (.int .i64 (.lit 1)), (.int .u64 (.var 9)), (.int .u64 (.var 19)), (.int .u64 (.var 20)), (.int .u64 (.var 0)), (.int .u64 (.var 2)), (.bool (.cmp .geq (.var 0) (.var 2))), (.int .u64 (.var 2)), (.int .i64 (.ap 0 (.var 2) (.lit 0) (.lit 0))), (.int .i64 (.var 18)), (.int .u64 (.var 2)), (.int .i64 (.var 18)), (.int .u64 (.var 3)), (.int .i64 (.var 18)), (.bool (.cmp .gtr (.var 18) (.lit 0))), U0, U0, U0, U0, U0, U0, U0, U0, U0, U0, U0, (.int .u64 (.var 3)), (.agg [(.int .u64 (.var 6)), (.int .u64 (.var 7))]), (.int .u64 (.var 1)), (.int .u64 (.var 8)), (.int .u64 (.var 1)), (.int .u64 (.var 9)), (.agg [(.int .u64 (.var 8)), (.int .u64 (.var 9))]), (.int .i64 (.lit 1)), (.bool (.lit true)), (.int .i64 (.lit 1)), (.int .u64 (.var 9)), (.int .u64 (.var 13)), (.ptr 1048595 1), (.int .u64 (.var 7)), (.int .u64 (.var 14)), (.int .u64 (.var 13)), (.int .u64 (.var 14)), (.ptr 1048595 1), (.int .u64 (.var 7)), (.int .u64 (.pl .mul (.var 14) (.var 7))), (.int .u64 (.ar .sub .u64 (.var 13) (.pl .mul (.var 14) (.var 7)))), .any, .any, .any, .any, .any, .any, .any, .any, .any, .any, .any, .any, .any, .any, .any, .any, .any, .any, .any, .any, .any, (.int .i64 (.lit 0)), (.int .u64 (.var 12)), (.ptr 1048597 0), (.int .u64 (.var 0)), (.int .u64 (.ar .shl .u64 (.var 0) (.lit 32))), (.int .u64 (.var 8)), (.int .u64 (.ar .add .u64 (.ar .shl .u64 (.var 0) (.lit 32)) (.var 8))), (.int .u64 (.var 12)), (.int .u64 (.var 3)), (.int .u64 (.ar .mul .u64 (.var 12) (.var 3))), (.int .u64 (.var 13)), (.int .i64 (.lit 1)), U0, U0, U0, U0, U0, U0, U0, U0, U0], [(1048597, ⟨144, [(.int .u64 (.var 12)), (.int .u64 (.lit 0))]⟩), (1048595, ⟨144, [(.int .u64 (.var 6)), (.int .u64 (.var 7))]⟩)]⟩
def dgB2E : List IE := [(.var 0), (.var 1), (.var 2), (.var 3), (.var 4), (.var 5), (.var 6), (.var 7), (.var 8), (.var 9), (.var 10), (.var 11), (.var 12), (.var 13), (.var 14), (.var 15), (.var 16), (.var 17), (.var 18), (.var 14), (.ar .sub .u64 (.var 13) (.pl .mul (.var 14) (.var 7)))]
def dgB2B : List BE := []
def dgB2T : RT :=
(.node (.cmp .lss (.lit 4294967295) (.var 19))
 (.node (.cmp .lss (.lit 4294967295) (.pl .add (.var 20) (.var 7)))
 (.stop [(.var 0), (.var 1), (.var 2), (.var 3), (.var 4), (.var 5), (.var 6), (.var 7), (.var 8), (.var 9), (.var 10), (.var 11), (.var 12), (.var 13), (.var 14), (.var 15), (.pl .sub (.var 19) (.lit 1)), (.var 17), (.var 18)] [])
 (.go [(.var 0), (.var 1), (.var 2), (.var 3), (.var 4), (.var 5), (.var 6), (.var 7), (.var 8), (.var 9), (.var 10), (.var 11), (.var 12), (.var 13), (.var 14), (.var 15), (.var 16), (.var 17), (.var 18), (.pl .sub (.var 19) (.lit 1)), (.pl .add (.var 20) (.var 7))] []))
 (.node (.cmp .lss (.ar .or .u64 (.ar .shl .u64 (.var 20) (.lit 32)) (.var 9)) (.pl .mul (.var 19) (.var 6)))
 (.node (.cmp .lss (.lit 4294967295) (.pl .add (.var 20) (.var 7)))
 (.stop [(.var 0), (.var 1), (.var 2), (.var 3), (.var 4), (.var 5), (.var 6), (.var 7), (.var 8), (.var 9), (.var 10), (.var 11), (.var 12), (.var 13), (.var 14), (.var 15), (.ar .sub .u64 (.var 19) (.lit 1)), (.var 17), (.var 18)] [])
 (.go [(.var 0), (.var 1), (.var 2), (.var 3), (.var 4), (.var 5), (.var 6), (.var 7), (.var 8), (.var 9), (.var 10), (.var 11), (.var 12), (.var 13), (.var 14), (.var 15), (.var 16), (.var 17), (.var 18), (.ar .sub .u64 (.var 19) (.lit 1)), (.pl .add (.var 20) (.var 7))] []))
 (.stop [(.var 0), (.var 1), (.var 2), (.var 3), (.var 4), (.var 5), (.var 6), (.var 7), (.var 8), (.var 9), (.var 10), (.var 11), (.var 12), (.var 13), (.var 14), (.var 15), (.var 19), (.var 17), (.var 18)] [])))

abbrev dvR : List (Int × Int) := [u64R, u64R, (1, 18446744073709551615), (9223372036854775808, 18446744073709551615), u64R, u64R, (0, 4294967295), (2147483648, 4294967295), (0, 4294967295), (0, 4294967295), (0, 4294967297), (0, 4294967295), (0, 4294967295), u64R, (0, 4294967297), (0, 4294967295), (0, 4294967295), u64R, (0, 63)]
abbrev dvRl : List (Int × Int) := dvR ++ [(0, 4294967297), (0, 4294967295)]
def upE : IE := .pl .sub (.lit 63) (.ap 0 (.var 2) (.lit 0) (.lit 0))
def hi2A : IE := .ar .sub .u64 (.ar .add .u64 (.ar .shl .u64 (.var 4) (.lit 32)) (.var 8)) (.ar .mul .u64 (.var 12) (.var 3))
def hi2B : IE := .ar .sub .u64 (.ar .add .u64 (.ar .shl .u64 (.var 0) (.lit 32)) (.var 8)) (.ar .mul .u64 (.var 12) (.var 3))
def hi3E : IE := .ar .sub .u64 (.ar .add .u64 (.ar .shl .u64 (.var 13) (.lit 32)) (.var 9)) (.ar .mul .u64 (.var 16) (.var 3))
def dvNA : List (IE × IE) := [(upE, 18), (.ar .shl .u64 (.var 2) (.var 18), 3), (.ar .or .u64 (.ar .shl .u64 (.var 0) (.var 18)) (.ar .shr .u64 (.var 1) (.pl .sub (.lit 64) (.var 18))), 4), (.ar .shl .u64 (.var 1) (.var 18), 5),
  (.ar .and .u64 (.var 3) (.lit 4294967295), 6), (.ar .shr .u64 (.var 3) (.lit 32), 7), (.ar .shr .u64 (.var 5) (.lit 32), 8), (.ar .and .u64 (.var 5) (.lit 4294967295), 9), (.ar .quo .u64 (.var 4) (.var 7), 10), (hi2A, 13), (.ar .quo .u64 (.var 13) (.var 7), 14), (hi3E, 17)]
def dvNB : List (IE × IE) := [(upE, 18), (.ar .shl .u64 (.var 2) (.var 18), 3), (.ar .and .u64 (.var 3) (.lit 4294967295), 6), (.ar .shr .u64 (.var 3) (.lit 32), 7), (.ar .shr .u64 (.var 1) (.lit 32), 8), (.ar .and .u64 (.var 1) (.lit 4294967295), 9), (.ar .quo .u64 (.var 0) (.var 7), 10), (hi2B, 13), (.ar .quo .u64 (.var 13) (.var 7), 14), (hi3E, 17)]
abbrev dvP : List Nat := [0, 0, 1, 1, 1, 0, 1, 0, 0, 1, 1, 0, 0, 1, 0, 1, 1, 1, 1, 1, 1, 1]
abbrev dvXr : Ctx := { pc := [], rg := dvRl, ar := arN }
theorem dgA1_lpB : lpB Try.prog dvXr 600 100 dvP 1048634 dgA1L dgA1H dgA1T dgA1E dgA1B = true := by kernel_rfl
theorem dgA2_lpB : lpB Try.prog dvXr 600 100 dvP 1048666 dgA2L dgA2H dgA2T dgA2E dgA2B = true := by kernel_rfl
theorem dgB1_lpB : lpB Try.prog dvXr 600 100 dvP 1048621 dgB1L dgB1H dgA1T dgB1E dgB1B = true := by kernel_rfl
theorem dgB2_lpB : lpB Try.prog dvXr 600 100 dvP 1048653 dgB2L dgB2H dgA2T dgB2E dgB2B = true := by kernel_rfl
theorem dg1_step {ρ : Env} (a0 a1 a2 a3 a4 a5 a6 a7 a8 a9 a10 a11 a12 a13 a14 a15 a16 a17 a18 : Int) {hi nx v1 v0 n r : Nat} (e6 : a6 = v0) (e7 : a7 = v1) (e8 : a8 = nx) (p : DgP hi nx v1 v0) (h : DgI hi nx v1 v0 n r) (hr : r < 4294967296) :
    (∃ n' r' : Nat, dgA1T.next (ρ.on [a0, a1, a2, a3, a4, a5, a6, a7, a8, a9, a10, a11, a12, a13, a14, a15, a16, a17, a18, n, r] []) = some ([a0, a1, a2, a3, a4, a5, a6, a7, a8, a9, a10, a11, a12, a13, a14, a15, a16, a17, a18, n', r'], []) ∧ n' < n ∧ DgI hi nx v1 v0 n' r' ∧ r' < 4294967296) ∨
    (∃ q : Nat, dgA1T.out (ρ.on [a0, a1, a2, a3, a4, a5, a6, a7, a8, a9, a10, a11, a12, a13, a14, a15, a16, a17, a18, n, r] []) = some ([a0, a1, a2, a3, a4, a5, a6, a7, a8, a9, a10, a11, (q : Int), a13, a14, a15, a16, a17, a18], []) ∧ q = (hi * 4294967296 + nx) / (v1 * 4294967296 + v0)) := by
  have hv1a := p.v1a
  have hv1b := p.v1b
  have hv0 := p.v0b
  have hnx := p.nb
  have htop := h.top
  have hor : arI .or .u64 ((r : Int) * 4294967296 % 18446744073709551616) (nx : Int) = (r : Int) * 4294967296 + nx := by
    rw [or32 (by omega) (by omega) (by omega)]; omega
  by_cases c0 : (4294967295 : Int) < n
  · obtain ⟨h1, h2⟩ := h.less p (.inl (by omega))
    by_cases c1 : (4294967295 : Int) < r + v1
    · refine .inr ⟨n - 1, ?_, h2.far p (by omega) (by omega)⟩
      simp only [dgA1T, RT.next, RT.out, BE.den, cmpI, IE.den, Env.on, List.getD_cons_zero, List.getD_cons_succ, dens, bdens, List.map_cons, List.map_nil, plI, e6, e7, e8, shl32, subW, hor, decide_eq_true c0, decide_eq_true c1, cond_true]
      rw [show ((n - 1 : Nat) : Int) = (n : Int) - 1 by omega]
    · refine .inl ⟨n - 1, r + v1, ?_, by omega, h2, by omega⟩
      simp only [dgA1T, RT.next, RT.out, BE.den, cmpI, IE.den, Env.on, List.getD_cons_zero, List.getD_cons_succ, dens, bdens, List.map_cons, List.map_nil, plI, e6, e7, e8, shl32, subW, hor, decide_eq_true c0, decide_eq_false c1, cond_true, cond_false]
      rw [show ((n - 1 : Nat) : Int) = (n : Int) - 1 by omega, show ((r + v1 : Nat) : Int) = (r : Int) + v1 by omega]
  · by_cases c2 : (r : Int) * 4294967296 + nx < (n : Int) * v0
    · have hc : r * 4294967296 + nx < n * v0 := by
        have e : ((n * v0 : Nat) : Int) = (n : Int) * v0 := Int.natCast_mul n v0
        rw [← e] at c2
        generalize n * v0 = z at c2 ⊢
        omega
      obtain ⟨h1, h2⟩ := h.less p (.inr hc)
      by_cases c1 : (4294967295 : Int) < r + v1
      · refine .inr ⟨n - 1, ?_, h2.far p (by omega) (by omega)⟩
        simp only [dgA1T, RT.next, RT.out, BE.den, cmpI, IE.den, Env.on, List.getD_cons_zero, List.getD_cons_succ, dens, bdens, List.map_cons, List.map_nil, plI, e6, e7, e8, shl32, subW, hor, decide_eq_false c0, decide_eq_true c1, decide_eq_true c2, cond_true, cond_false]
        rw [show ((n - 1 : Nat) : Int) = ((n : Int) - 1) % 18446744073709551616 by omega]
      · refine .inl ⟨n - 1, r + v1, ?_, by omega, h2, by omega⟩
        simp only [dgA1T, RT.next, RT.out, BE.den, cmpI, IE.den, Env.on, List.getD_cons_zero, List.getD_cons_succ, dens, bdens, List.map_cons, List.map_nil, plI, e6, e7, e8, shl32, subW, hor, decide_eq_false c0, decide_eq_false c1, decide_eq_true c2, cond_true, cond_false]
        rw [show ((n - 1 : Nat) : Int) = ((n : Int) - 1) % 18446744073709551616 by omega, show ((r + v1 : Nat) : Int) = (r : Int) + v1 by omega]
    · have hc : n * v0 ≤ r * 4294967296 + nx := by
        have e : ((n * v0 : Nat) : Int) = (n : Int) * v0 := Int.natCast_mul n v0
        rw [← e] at c2
        generalize n * v0 = z at c2 ⊢
        omega
      refine .inr ⟨n, ?_, h.stop p hc⟩
      simp only [dgA1T, RT.next, RT.out, BE.den, cmpI, IE.den, Env.on, List.getD_cons_zero, List.getD_cons_succ, dens, bdens, List.map_cons, List.map_nil, plI, e6, e7, e8, shl32, subW, hor, decide_eq_false c0, decide_eq_false c2, cond_true, cond_false]
theorem dg2_step {ρ : Env} (a0 a1 a2 a3 a4 a5 a6 a7 a8 a9 a10 a11 a12 a13 a14 a15 a16 a17 a18 : Int) {hi nx v1 v0 n r : Nat} (e6 : a6 = v0) (e7 : a7 = v1) (e9 : a9 = nx) (p : DgP hi nx v1 v0) (h : DgI hi nx v1 v0 n r) (hr : r < 4294967296) :
    (∃ n' r' : Nat, dgA2T.next (ρ.on [a0, a1, a2, a3, a4, a5, a6, a7, a8, a9, a10, a11, a12, a13, a14, a15, a16, a17, a18, n, r] []) = some ([a0, a1, a2, a3, a4, a5, a6, a7, a8, a9, a10, a11, a12, a13, a14, a15, a16, a17, a18, n', r'], []) ∧ n' < n ∧ DgI hi nx v1 v0 n' r' ∧ r' < 4294967296) ∨
    (∃ q : Nat, dgA2T.out (ρ.on [a0, a1, a2, a3, a4, a5, a6, a7, a8, a9, a10, a11, a12, a13, a14, a15, a16, a17, a18, n, r] []) = some ([a0, a1, a2, a3, a4, a5, a6, a7, a8, a9, a10, a11, a12, a13, a14, a15, (q : Int), a17, a18], []) ∧ q = (hi * 4294967296 + nx) / (v1 * 4294967296 + v0)) := by
  have hv1a := p.v1a
  have hv1b := p.v1b
  have hv0 := p.v0b
  have hnx := p.nb
  have htop := h.top
  have hor : arI .or .u64 ((r : Int) * 4294967296 % 18446744073709551616) (nx : Int) = (r : Int) * 4294967296 + nx := by
    rw [or32 (by omega) (by omega) (by omega)]; omega
  by_cases c0 : (4294967295 : Int) < n
  · obtain ⟨h1, h2⟩ := h.less p (.inl (by omega))
    by_cases c1 : (4294967295 : Int) < r + v1
    · refine .inr ⟨n - 1, ?_, h2.far p (by omega) (by omega)⟩
      simp only [dgA2T, RT.next, RT.out, BE.den, cmpI, IE.den, Env.on, List.getD_cons_zero, List.getD_cons_succ, dens, bdens, List.map_cons, List.map_nil, plI, e6, e7, e9, shl32, subW, hor, decide_eq_true c0, decide_eq_true c1, cond_true]
      rw [show ((n - 1 : Nat) : Int) = (n : Int) - 1 by omega]
    · refine .inl ⟨n - 1, r + v1, ?_, by omega, h2, by omega⟩
      simp only [dgA2T, RT.next, RT.out, BE.den, cmpI, IE.den, Env.on, List.getD_cons_zero, List.getD_cons_succ, dens, bdens, List.map_cons, List.map_nil, plI, e6, e7, e9, shl32, subW, hor, decide_eq_true c0, decide_eq_false c1, cond_true, cond_false]
      rw [show ((n - 1 : Nat) : Int) = (n : Int) - 1 by omega, show ((r + v1 : Nat) : Int) = (r : Int) + v1 by omega]
  · by_cases c2 : (r : Int) * 4294967296 + nx < (n : Int) * v0
    · have hc : r * 4294967296 + nx < n * v0 := by
        have e : ((n * v0 : Nat) : Int) = (n : Int) * v0 := Int.natCast_mul n v0
        rw [← e] at c2
        generalize n * v0 = z at c2 ⊢
        omega
      obtain ⟨h1, h2⟩ := h.less p (.inr hc)
      by_cases c1 : (4294967295 : Int) < r + v1
      · refine .inr ⟨n - 1, ?_, h2.far p (by omega) (by omega)⟩
        simp only [dgA2T, RT.next, RT.out, BE.den, cmpI, IE.den, Env.on, List.getD_cons_zero, List.getD_cons_succ, dens, bdens, List.map_cons, List.map_nil, plI, e6, e7, e9, shl32, subW, hor, decide_eq_false c0, decide_eq_true c1, decide_eq_true c2, cond_true, cond_false]
        rw [show ((n - 1 : Nat) : Int) = ((n : Int) - 1) % 18446744073709551616 by omega]
      · refine .inl ⟨n - 1, r + v1, ?_, by omega, h2, by omega⟩
        simp only [dgA2T, RT.next, RT.out, BE.den, cmpI, IE.den, Env.on, List.getD_cons_zero, List.getD_cons_succ, dens, bdens, List.map_cons, List.map_nil, plI, e6, e7, e9, shl32, subW, hor, decide_eq_false c0, decide_eq_false c1, decide_eq_true c2, cond_true, cond_false]
        rw [show ((n - 1 : Nat) : Int) = ((n : Int) - 1) % 18446744073709551616 by omega, show ((r + v1 : Nat) : Int) = (r : Int) + v1 by omega]
    · have hc : n * v0 ≤ r * 4294967296 + nx := by
        have e : ((n * v0 : Nat) : Int) = (n : Int) * v0 := Int.natCast_mul n v0
        rw [← e] at c2
        generalize n * v0 = z at c2 ⊢
        omega
      refine .inr ⟨n, ?_, h.stop p hc⟩
      simp only [dgA2T, RT.next, RT.out, BE.den, cmpI, IE.den, Env.on, List.getD_cons_zero, List.getD_cons_succ, dens, bdens, List.map_cons, List.map_nil, plI, e6, e7, e9, shl32, subW, hor, decide_eq_false c0, decide_eq_false c2, cond_true, cond_false]
/-- the numbers of a division -/
structure DvE (hi lo d up hi' lo' q1 hi2 q2 hi3 : Nat) : Prop where
  fu : up ≤ 63
  d1 : 9223372036854775808 ≤ d * 2 ^ up
  d2 : d * 2 ^ up < 18446744073709551616
  fhi : hi' < d * 2 ^ up
  flo : lo' < 18446744073709551616
  fq1 : q1 = (hi' * 4294967296 + lo' / 4294967296) / (d * 2 ^ up)
  fh2 : hi2 = (hi' * 4294967296 + lo' / 4294967296) % (d * 2 ^ up)
  fq2 : q2 = (hi2 * 4294967296 + lo' % 4294967296) / (d * 2 ^ up)
  fh3 : hi3 = (hi2 * 4294967296 + lo' % 4294967296) % (d * 2 ^ up)
  val : hi' * 18446744073709551616 + lo' = (hi * 18446744073709551616 + lo) * 2 ^ up
  dlo : lo < 18446744073709551616
  lt : hi < d
theorem DvE.ends {hi lo d up hi' lo' q1 hi2 q2 hi3 : Nat} (h : DvE hi lo d up hi' lo' q1 hi2 q2 hi3) : q1 * 4294967296 + q2 = (hi * 18446744073709551616 + lo) / d ∧ hi3 / 2 ^ up = (hi * 18446744073709551616 + lo) % d ∧ q1 < 4294967296 ∧ q2 < 4294967296 ∧ hi2 < d * 2 ^ up ∧ hi3 < d * 2 ^ up := by
  have hd : 0 < d * 2 ^ up := by have := h.d1; omega
  have hp : 0 < 2 ^ up := Nat.pow_pos (by decide)
  have e := two_digits (hi := hi') (a := lo' / 4294967296) (b := lo' % 4294967296) (d := d * 2 ^ up) (by have := h.flo; omega) (by omega) hd
  dsimp only at e
  rw [← h.fq1, ← h.fh2, ← h.fq2, ← h.fh3, show lo' / 4294967296 * 4294967296 + lo' % 4294967296 = lo' by omega, h.val] at e
  obtain ⟨e1, e2⟩ := e
  rw [Nat.mul_div_mul_right _ _ hp] at e1
  rw [Nat.mul_mod_mul_right] at e2
  have l2 : hi2 < d * 2 ^ up := by rw [h.fh2]; exact Nat.mod_lt _ hd
  have l3 : hi3 < d * 2 ^ up := by rw [h.fh3]; exact Nat.mod_lt _ hd
  have key : ∀ x y : Nat, x < d * 2 ^ up → y < 4294967296 → (x * 4294967296 + y) / (d * 2 ^ up) < 4294967296 := by
    intro x y hx hy
    rw [Nat.div_lt_iff_lt_mul hd]; omega
  refine ⟨e1.symm, by rw [← e2, Nat.mul_div_cancel _ hp], ?_, ?_, l2, l3⟩
  · rw [h.fq1]; exact key _ _ h.fhi (by have := h.flo; omega)
  · rw [h.fq2]; exact key _ _ l2 (by omega)
theorem mod_word {H a q d : Nat} (hd : 0 < d) (hq : q = (H * 4294967296 + a) / d) (h2 : d < 18446744073709551616) : (((H : Int) * 4294967296 % 18446744073709551616 + a) % 18446744073709551616 - (q : Int) * d % 18446744073709551616) % 18446744073709551616 = ((H * 4294967296 + a) % d : Nat) := by
  have e := Nat.div_add_mod (H * 4294967296 + a) d
  have hm := Nat.mod_lt (H * 4294967296 + a) hd
  rw [← hq, Nat.mul_comm] at e
  have e' : ((q * d : Nat) : Int) = (q : Int) * d := Int.natCast_mul q d
  rw [← e']
  generalize q * d = z at e ⊢
  generalize (H * 4294967296 + a) % d = m at e hm ⊢
  omega
theorem DvE.digit1 {hi lo d up hi' lo' q1 hi2 q2 hi3 : Nat} (h : DvE hi lo d up hi' lo' q1 hi2 q2 hi3) : DgP hi' (lo' / 4294967296) (d * 2 ^ up / 4294967296) (d * 2 ^ up % 4294967296) ∧ q1 = (hi' * 4294967296 + lo' / 4294967296) / (d * 2 ^ up / 4294967296 * 4294967296 + d * 2 ^ up % 4294967296) := by
  have h1 := h.d1
  have h2 := h.d2
  have h3 := h.fhi
  have h4 := h.flo
  have h5 := h.fq1
  generalize d * 2 ^ up = D at *
  have e : D / 4294967296 * 4294967296 + D % 4294967296 = D := by omega
  rw [e]
  exact ⟨⟨by omega, by omega, by omega, by omega, by omega⟩, h5⟩
theorem DvE.digit2 {hi lo d up hi' lo' q1 hi2 q2 hi3 : Nat} (h : DvE hi lo d up hi' lo' q1 hi2 q2 hi3) : DgP hi2 (lo' % 4294967296) (d * 2 ^ up / 4294967296) (d * 2 ^ up % 4294967296) ∧ q2 = (hi2 * 4294967296 + lo' % 4294967296) / (d * 2 ^ up / 4294967296 * 4294967296 + d * 2 ^ up % 4294967296) := by
  have h1 := h.d1
  have h2 := h.d2
  have h3 := h.ends.2.2.2.2.1
  have h4 := h.flo
  have h5 := h.fq2
  generalize d * 2 ^ up = D at *
  have e : D / 4294967296 * 4294967296 + D % 4294967296 = D := by omega
  rw [e]
  exact ⟨⟨by omega, by omega, by omega, by omega, by omega⟩, h5⟩
abbrev dvL (hi lo d up hi' lo' q1 hi2 q2 hi3 : Nat) : List Int := [hi, lo, d, (d * 2 ^ up : Nat), hi', lo', (d * 2 ^ up % 4294967296 : Nat), (d * 2 ^ up / 4294967296 : Nat), (lo' / 4294967296 : Nat), (lo' % 4294967296 : Nat), (hi' / (d * 2 ^ up / 4294967296) : Nat), 0, q1, hi2, (hi2 / (d * 2 ^ up / 4294967296) : Nat), 0, q2, hi3, up]
theorem dg_top {x D : Nat} (h1 : 9223372036854775808 ≤ D) (hx : x < D) : x / (D / 4294967296) ≤ 4294967297 := by
  have : x / (D / 4294967296) < 4294967298 := by rw [Nat.div_lt_iff_lt_mul (by omega)]; omega
  omega
theorem DvE.rg {hi lo d up hi' lo' q1 hi2 q2 hi3 : Nat} (h : DvE hi lo d up hi' lo' q1 hi2 q2 hi3) (hd : d < 18446744073709551616) (l : List Int) : AllIn (fun i => (dvL hi lo d up hi' lo' q1 hi2 q2 hi3 ++ l).getD i 0) dvR 0 := by
  obtain ⟨_, _, l1, l2, l3, l4⟩ := h.ends
  have t1 := dg_top h.d1 h.fhi
  have t2 := dg_top h.d1 l3
  have h1 := h.d1
  have h2 := h.d2
  have h3 := h.fhi
  have h4 := h.flo
  have h5 := h.fu
  have h6 := h.lt
  have h7 := h.dlo
  simp only [AllIn, dvL, List.cons_append, List.getD_cons_zero, List.getD_cons_succ]
  generalize hi' / (d * 2 ^ up / 4294967296) = n1 at *
  generalize hi2 / (d * 2 ^ up / 4294967296) = n2 at *
  generalize d * 2 ^ up = D at *
  refine ⟨?_, ?_, ?_, ?_, ?_, ?_, ?_, ?_, ?_, ?_, ?_, ?_, ?_, ?_, ?_, ?_, ?_, ?_, ?_, trivial⟩ <;> constructor <;> omega
theorem dgA1_loop {hi lo d up hi' lo' q1 hi2 q2 hi3 : Nat} (h : DvE hi lo d up hi' lo' q1 hi2 q2 hi3) (hd : d < 18446744073709551616) {E : List (Nat × Nat)} {c : Code} (hc : codeAt Try.prog 100 dvP = .loop c) : LoopGoes Try.prog (envOf (dvL hi lo d up hi' lo' q1 hi2 q2 hi3) (ap := apN)) E dgA1L c := by
  obtain ⟨p, hq⟩ := h.digit1
  obtain ⟨hs, hs2⟩ := p.start
  refine rt_lp mixed dgA1_lpB hc (fun m is bs => ∃ n r : Nat, DgI hi' (lo' / 4294967296) (d * 2 ^ up / 4294967296) (d * 2 ^ up % 4294967296) n r ∧ r < 4294967296 ∧ m = n ∧ bs = [] ∧ is = dvL hi lo d up hi' lo' q1 hi2 q2 hi3 ++ [(n : Int), (r : Int)]) ?_ ?_ ⟨_, _, _, hs, by have := p.v1b; omega, rfl, rfl, ?_⟩ ?_
  · rintro m is bs ⟨n, r, hg, hr, _, _, rfl⟩
    have ht := hg.top
    have h0 := h.rg hd [(n : Int), (r : Int)]
    refine knows_env rfl ?_ arN_ok
    simp only [AllIn, dvL, List.cons_append, List.getD_cons_zero, List.getD_cons_succ] at h0
    simp only [AllIn, Env.on, dvL, List.cons_append, List.nil_append, List.getD_cons_zero, List.getD_cons_succ]
    obtain ⟨b0, b1, b2, b3, b4, b5, b6, b7, b8, b9, b10, b11, b12, b13, b14, b15, b16, b17, b18, _⟩ := h0
    exact ⟨b0, b1, b2, b3, b4, b5, b6, b7, b8, b9, b10, b11, b12, b13, b14, b15, b16, b17, b18, ⟨by omega, by omega⟩, ⟨by omega, by omega⟩, trivial⟩
  · rintro m is bs _ E
    exact knowsC_none rfl rfl rfl
  · simp only [dgA1E, dens, List.map_cons, List.map_nil, IE.den, dvL, List.getD_cons_zero, List.getD_cons_succ, List.cons_append, List.nil_append, plI, subW]
    skip
    have hle : hi' / (d * 2 ^ up / 4294967296) * (d * 2 ^ up / 4294967296) ≤ hi' := Nat.div_mul_le_self _ _
    have hx := h.fhi
    have hx2 := h.ends.2.2.2.2.1
    have hx3 := h.d2
    rw [← Int.natCast_mul]
    generalize hi' / (d * 2 ^ up / 4294967296) * (d * 2 ^ up / 4294967296) = z at hle
    generalize d * 2 ^ up = D at hx hx2 hx3
    have : (((hi' : Nat) : Int) - ((z : Nat) : Int)) % 18446744073709551616 = ((hi' - z : Nat) : Int) := by omega
    rw [this]
  · rintro m is bs ⟨n, r, hg, hr, rfl, rfl, rfl⟩
    have := dg1_step (ρ := envOf (dvL hi lo d up hi' lo' q1 hi2 q2 hi3) (ap := apN)) hi lo d (d * 2 ^ up : Nat) hi' lo' (d * 2 ^ up % 4294967296 : Nat) (d * 2 ^ up / 4294967296 : Nat) (lo' / 4294967296 : Nat) (lo' % 4294967296 : Nat) (hi' / (d * 2 ^ up / 4294967296) : Nat) 0 q1 hi2 (hi2 / (d * 2 ^ up / 4294967296) : Nat) 0 q2 hi3 up rfl rfl rfl p hg hr
    rcases this with ⟨n', r', h1, h2, h3, h4⟩ | ⟨q, h1, h2⟩
    · exact .inl ⟨_, _, _, h1, h2, n', r', h3, h4, rfl, rfl, rfl⟩
    · rw [← hq] at h2
      subst h2
      exact .inr ⟨_, _, h1, has_of (fun i x hx => envOf_has (dvL hi lo d up hi' lo' _ hi2 _ hi3) [] [] [] apN [] |>.1 i x hx) rfl⟩
theorem dgA2_loop {hi lo d up hi' lo' q1 hi2 q2 hi3 : Nat} (h : DvE hi lo d up hi' lo' q1 hi2 q2 hi3) (hd : d < 18446744073709551616) {E : List (Nat × Nat)} {c : Code} (hc : codeAt Try.prog 100 dvP = .loop c) : LoopGoes Try.prog (envOf (dvL hi lo d up hi' lo' q1 hi2 q2 hi3) (ap := apN)) E dgA2L c := by
  obtain ⟨p, hq⟩ := h.digit2
  obtain ⟨hs, hs2⟩ := p.start
  refine rt_lp mixed dgA2_lpB hc (fun m is bs => ∃ n r : Nat, DgI hi2 (lo' % 4294967296) (d * 2 ^ up / 4294967296) (d * 2 ^ up % 4294967296) n r ∧ r < 4294967296 ∧ m = n ∧ bs = [] ∧ is = dvL hi lo d up hi' lo' q1 hi2 q2 hi3 ++ [(n : Int), (r : Int)]) ?_ ?_ ⟨_, _, _, hs, by have := p.v1b; omega, rfl, rfl, ?_⟩ ?_
  · rintro m is bs ⟨n, r, hg, hr, _, _, rfl⟩
    have ht := hg.top
    have h0 := h.rg hd [(n : Int), (r : Int)]
    refine knows_env rfl ?_ arN_ok
    simp only [AllIn, dvL, List.cons_append, List.getD_cons_zero, List.getD_cons_succ] at h0
    simp only [AllIn, Env.on, dvL, List.cons_append, List.nil_append, List.getD_cons_zero, List.getD_cons_succ]
    obtain ⟨b0, b1, b2, b3, b4, b5, b6, b7, b8, b9, b10, b11, b12, b13, b14, b15, b16, b17, b18, _⟩ := h0
    exact ⟨b0, b1, b2, b3, b4, b5, b6, b7, b8, b9, b10, b11, b12, b13, b14, b15, b16, b17, b18, ⟨by omega, by omega⟩, ⟨by omega, by omega⟩, trivial⟩
  · rintro m is bs _ E
    exact knowsC_none rfl rfl rfl
  · simp only [dgA2E, dens, List.map_cons, List.map_nil, IE.den, dvL, List.getD_cons_zero, List.getD_cons_succ, List.cons_append, List.nil_append, plI, subW]
    skip
    have hle : hi2 / (d * 2 ^ up / 4294967296) * (d * 2 ^ up / 4294967296) ≤ hi2 := Nat.div_mul_le_self _ _
    have hx := h.fhi
    have hx2 := h.ends.2.2.2.2.1
    have hx3 := h.d2
    rw [← Int.natCast_mul]
    generalize hi2 / (d * 2 ^ up / 4294967296) * (d * 2 ^ up / 4294967296) = z at hle
    generalize d * 2 ^ up = D at hx hx2 hx3
    have : (((hi2 : Nat) : Int) - ((z : Nat) : Int)) % 18446744073709551616 = ((hi2 - z : Nat) : Int) := by omega
    rw [this]
  · rintro m is bs ⟨n, r, hg, hr, rfl, rfl, rfl⟩
    have := dg2_step (ρ := envOf (dvL hi lo d up hi' lo' q1 hi2 q2 hi3) (ap := apN)) hi lo d (d * 2 ^ up : Nat) hi' lo' (d * 2 ^ up % 4294967296 : Nat) (d * 2 ^ up / 4294967296 : Nat) (lo' / 4294967296 : Nat) (lo' % 4294967296 : Nat) (hi' / (d * 2 ^ up / 4294967296) : Nat) 0 q1 hi2 (hi2 / (d * 2 ^ up / 4294967296) : Nat) 0 q2 hi3 up rfl rfl rfl p hg hr
    rcases this with ⟨n', r', h1, h2, h3, h4⟩ | ⟨q, h1, h2⟩
    · exact .inl ⟨_, _, _, h1, h2, n', r', h3, h4, rfl, rfl, rfl⟩
    · rw [← hq] at h2
      subst h2
      exact .inr ⟨_, _, h1, has_of (fun i x hx => envOf_has (dvL hi lo d up hi' lo' _ hi2 _ hi3) [] [] [] apN [] |>.1 i x hx) rfl⟩
theorem dgB1_loop {hi lo d up hi' lo' q1 hi2 q2 hi3 : Nat} (h : DvE hi lo d up hi' lo' q1 hi2 q2 hi3) (hd : d < 18446744073709551616) (e1 : hi = hi') (e2 : lo = lo') {E : List (Nat × Nat)} {c : Code} (hc : codeAt Try.prog 100 dvP = .loop c) : LoopGoes Try.prog (envOf (dvL hi lo d up hi' lo' q1 hi2 q2 hi3) (ap := apN)) E dgB1L c := by
  obtain ⟨p, hq⟩ := h.digit1
  obtain ⟨hs, hs2⟩ := p.start
  refine rt_lp mixed dgB1_lpB hc (fun m is bs => ∃ n r : Nat, DgI hi' (lo' / 4294967296) (d * 2 ^ up / 4294967296) (d * 2 ^ up % 4294967296) n r ∧ r < 4294967296 ∧ m = n ∧ bs = [] ∧ is = dvL hi lo d up hi' lo' q1 hi2 q2 hi3 ++ [(n : Int), (r : Int)]) ?_ ?_ ⟨_, _, _, hs, by have := p.v1b; omega, rfl, rfl, ?_⟩ ?_
  · rintro m is bs ⟨n, r, hg, hr, _, _, rfl⟩
    have ht := hg.top
    have h0 := h.rg hd [(n : Int), (r : Int)]
    refine knows_env rfl ?_ arN_ok
    simp only [AllIn, dvL, List.cons_append, List.getD_cons_zero, List.getD_cons_succ] at h0
    simp only [AllIn, Env.on, dvL, List.cons_append, List.nil_append, List.getD_cons_zero, List.getD_cons_succ]
    obtain ⟨b0, b1, b2, b3, b4, b5, b6, b7, b8, b9, b10, b11, b12, b13, b14, b15, b16, b17, b18, _⟩ := h0
    exact ⟨b0, b1, b2, b3, b4, b5, b6, b7, b8, b9, b10, b11, b12, b13, b14, b15, b16, b17, b18, ⟨by omega, by omega⟩, ⟨by omega, by omega⟩, trivial⟩
  · rintro m is bs _ E
    exact knowsC_none rfl rfl rfl
  · simp only [dgB1E, dens, List.map_cons, List.map_nil, IE.den, dvL, List.getD_cons_zero, List.getD_cons_succ, List.cons_append, List.nil_append, plI, subW]
    subst e1 e2
    have hle : hi / (d * 2 ^ up / 4294967296) * (d * 2 ^ up / 4294967296) ≤ hi := Nat.div_mul_le_self _ _
    have hx := h.fhi
    have hx2 := h.ends.2.2.2.2.1
    have hx3 := h.d2
    rw [← Int.natCast_mul]
    generalize hi / (d * 2 ^ up / 4294967296) * (d * 2 ^ up / 4294967296) = z at hle
    generalize d * 2 ^ up = D at hx hx2 hx3
    have : (((hi : Nat) : Int) - ((z : Nat) : Int)) % 18446744073709551616 = ((hi - z : Nat) : Int) := by omega
    rw [this]
  · rintro m is bs ⟨n, r, hg, hr, rfl, rfl, rfl⟩
    have := dg1_step (ρ := envOf (dvL hi lo d up hi' lo' q1 hi2 q2 hi3) (ap := apN)) hi lo d (d * 2 ^ up : Nat) hi' lo' (d * 2 ^ up % 4294967296 : Nat) (d * 2 ^ up / 4294967296 : Nat) (lo' / 4294967296 : Nat) (lo' % 4294967296 : Nat) (hi' / (d * 2 ^ up / 4294967296) : Nat) 0 q1 hi2 (hi2 / (d * 2 ^ up / 4294967296) : Nat) 0 q2 hi3 up rfl rfl rfl p hg hr
    rcases this with ⟨n', r', h1, h2, h3, h4⟩ | ⟨q, h1, h2⟩
    · exact .inl ⟨_, _, _, h1, h2, n', r', h3, h4, rfl, rfl, rfl⟩
    · rw [← hq] at h2
      subst h2
      exact .inr ⟨_, _, h1, has_of (fun i x hx => envOf_has (dvL hi lo d up hi' lo' _ hi2 _ hi3) [] [] [] apN [] |>.1 i x hx) rfl⟩
theorem dgB2_loop {hi lo d up hi' lo' q1 hi2 q2 hi3 : Nat} (h : DvE hi lo d up hi' lo' q1 hi2 q2 hi3) (hd : d < 18446744073709551616) (e1 : hi = hi') (e2 : lo = lo') {E : List (Nat × Nat)} {c : Code} (hc : codeAt Try.prog 100 dvP = .loop c) : LoopGoes Try.prog (envOf (dvL hi lo d up hi' lo' q1 hi2 q2 hi3) (ap := apN)) E dgB2L c := by
  obtain ⟨p, hq⟩ := h.digit2
  obtain ⟨hs, hs2⟩ := p.start
  refine rt_lp mixed dgB2_lpB hc (fun m is bs => ∃ n r : Nat, DgI hi2 (lo' % 4294967296) (d * 2 ^ up / 4294967296) (d * 2 ^ up % 4294967296) n r ∧ r < 4294967296 ∧ m = n ∧ bs = [] ∧ is = dvL hi lo d up hi' lo' q1 hi2 q2 hi3 ++ [(n : Int), (r : Int)]) ?_ ?_ ⟨_, _, _, hs, by have := p.v1b; omega, rfl, rfl, ?_⟩ ?_
  · rintro m is bs ⟨n, r, hg, hr, _, _, rfl⟩
    have ht := hg.top
    have h0 := h.rg hd [(n : Int), (r : Int)]
    refine knows_env rfl ?_ arN_ok
    simp only [AllIn, dvL, List.cons_append, List.getD_cons_zero, List.getD_cons_succ] at h0
    simp only [AllIn, Env.on, dvL, List.cons_append, List.nil_append, List.getD_cons_zero, List.getD_cons_succ]
    obtain ⟨b0, b1, b2, b3, b4, b5, b6, b7, b8, b9, b10, b11, b12, b13, b14, b15, b16, b17, b18, _⟩ := h0
    exact ⟨b0, b1, b2, b3, b4, b5, b6, b7, b8, b9, b10, b11, b12, b13, b14, b15, b16, b17, b18, ⟨by omega, by omega⟩, ⟨by omega, by omega⟩, trivial⟩
  · rintro m is bs _ E
    exact knowsC_none rfl rfl rfl
  · simp only [dgB2E, dens, List.map_cons, List.map_nil, IE.den, dvL, List.getD_cons_zero, List.getD_cons_succ, List.cons_append, List.nil_append, plI, subW]
    subst e1 e2
    have hle : hi2 / (d * 2 ^ up / 4294967296) * (d * 2 ^ up / 4294967296) ≤ hi2 := Nat.div_mul_le_self _ _
    have hx := h.fhi
    have hx2 := h.ends.2.2.2.2.1
    have hx3 := h.d2
    rw [← Int.natCast_mul]
    generalize hi2 / (d * 2 ^ up / 4294967296) * (d * 2 ^ up / 4294967296) = z at hle
    generalize d * 2 ^ up = D at hx hx2 hx3
    have : (((hi2 : Nat) : Int) - ((z : Nat) : Int)) % 18446744073709551616 = ((hi2 - z : Nat) : Int) := by omega
    rw [this]
  · rintro m is bs ⟨n, r, hg, hr, rfl, rfl, rfl⟩
    have := dg2_step (ρ := envOf (dvL hi lo d up hi' lo' q1 hi2 q2 hi3) (ap := apN)) hi lo d (d * 2 ^ up : Nat) hi' lo' (d * 2 ^ up % 4294967296 : Nat) (d * 2 ^ up / 4294967296 : Nat) (lo' / 4294967296 : Nat) (lo' % 4294967296 : Nat) (hi' / (d * 2 ^ up / 4294967296) : Nat) 0 q1 hi2 (hi2 / (d * 2 ^ up / 4294967296) : Nat) 0 q2 hi3 up rfl rfl rfl p hg hr
    rcases this with ⟨n', r', h1, h2, h3, h4⟩ | ⟨q, h1, h2⟩
    · exact .inl ⟨_, _, _, h1, h2, n', r', h3, h4, rfl, rfl, rfl⟩
    · rw [← hq] at h2
      subst h2
      exact .inr ⟨_, _, h1, has_of (fun i x hx => envOf_has (dvL hi lo d up hi' lo' _ hi2 _ hi3) [] [] [] apN [] |>.1 i x hx) rfl⟩

def dvlA (f : FuncId) (p : List Nat) (u : Nat) : Option LoopSum := if Nat.beq f 100 && decide (p = dvP) then (if Nat.beq u 1048634 then some dgA1L else if Nat.beq u 1048666 then some dgA2L else none) else none
def dvlB (f : FuncId) (p : List Nat) (u : Nat) : Option LoopSum := if Nat.beq f 100 && decide (p = dvP) then (if Nat.beq u 1048621 then some dgB1L else if Nat.beq u 1048653 then some dgB2L else none) else none

/-- how far a divisor is turned up -/
def upOf (d : Nat) : Nat := 63 - Nat.log2 d
theorem upOf_spec {d : Nat} (h0 : 0 < d) (h1 : d < 18446744073709551616) : upOf d ≤ 63 ∧ 9223372036854775808 ≤ d * 2 ^ upOf d ∧ d * 2 ^ upOf d < 18446744073709551616 ∧ wLog d = 63 - (upOf d : Int) := by
  have e64 : (2 : Nat) ^ 64 = 18446744073709551616 := by decide
  have e63 : (2 : Nat) ^ 63 = 9223372036854775808 := by decide
  have hl : Nat.log2 d < 64 := (Nat.log2_lt (by omega)).2 (by omega)
  have g1 : 2 ^ Nat.log2 d ≤ d := Nat.log2_self_le (by omega)
  have g2 : d < 2 ^ (Nat.log2 d + 1) := Nat.lt_log2_self
  have hw : wLog d = (Nat.log2 d : Int) := by unfold wLog; rw [if_neg (by omega)]; simp
  unfold upOf
  have s1 : 2 ^ Nat.log2 d * 2 ^ (63 - Nat.log2 d) = 2 ^ 63 := by rw [← Nat.pow_add]; congr 1; omega
  have s2 : 2 ^ (Nat.log2 d + 1) * 2 ^ (63 - Nat.log2 d) = 2 ^ 64 := by rw [← Nat.pow_add]; congr 1; omega
  have hp : 0 < 2 ^ (63 - Nat.log2 d) := Nat.pow_pos (by decide)
  refine ⟨by omega, ?_, ?_, by rw [hw]; omega⟩
  · rw [← e63, ← s1]; exact Nat.mul_le_mul_right _ g1
  · rw [← e64, ← s2]; exact Nat.mul_lt_mul_of_pos_right g2 hp
theorem DvE.mk' {hi lo d : Nat} (h0 : lo < 18446744073709551616) (hd : d < 18446744073709551616) (hl : hi < d) :
    ∃ hi' lo' q1 hi2 q2 hi3, DvE hi lo d (upOf d) hi' lo' q1 hi2 q2 hi3 ∧ hi' = hi * 2 ^ upOf d + lo / 2 ^ (64 - upOf d) ∧ lo' = lo * 2 ^ upOf d % 18446744073709551616 := by
  obtain ⟨u1, u2, u3, _⟩ := upOf_spec (show 0 < d by omega) hd
  have e64 : (2 : Nat) ^ 64 = 18446744073709551616 := by decide
  have hp : 0 < 2 ^ upOf d := Nat.pow_pos (by decide)
  have hs : 2 ^ (64 - upOf d) * 2 ^ upOf d = 18446744073709551616 := by rw [← Nat.pow_add, ← e64]; congr 1; omega
  have hdiv : lo * 2 ^ upOf d / 18446744073709551616 = lo / 2 ^ (64 - upOf d) := by rw [← hs, Nat.mul_div_mul_right _ _ hp]
  have hdm := Nat.div_add_mod (lo * 2 ^ upOf d) 18446744073709551616
  rw [hdiv] at hdm
  have hlt : hi * 2 ^ upOf d + lo / 2 ^ (64 - upOf d) < d * 2 ^ upOf d := by
    have a1 : lo / 2 ^ (64 - upOf d) < 2 ^ upOf d := by
      rw [Nat.div_lt_iff_lt_mul (Nat.pow_pos (by decide)), Nat.mul_comm, hs]; exact h0
    have a2 : (hi + 1) * 2 ^ upOf d ≤ d * 2 ^ upOf d := Nat.mul_le_mul_right _ hl
    rw [Nat.add_mul] at a2
    omega
  refine ⟨_, _, _, _, _, _, ⟨u1, u2, u3, hlt, Nat.mod_lt _ (by decide), rfl, rfl, rfl, rfl, ?_, h0, hl⟩, rfl, rfl⟩
  rw [Nat.add_mul, Nat.add_mul, Nat.mul_right_comm]
  omega
theorem ap5_of {hi lo d q : Nat} (hl : hi < d) (hq : q = (hi * 18446744073709551616 + lo) / d) (h : q < 18446744073709551616) : apN 5 hi lo d = q := by
  simp only [apN]
  rw [if_pos (by omega)]
  have e : (hi : Int) * 18446744073709551616 + lo = ((hi * 18446744073709551616 + lo : Nat) : Int) := by omega
  have : ((hi : Int) * 18446744073709551616 + lo) / d = (q : Nat) := by rw [hq, e, Int.natCast_ediv]
  rw [this]; omega
theorem ap6_of {hi lo d r : Nat} (hl : hi < d) (hd : d < 18446744073709551616) (hr : r = (hi * 18446744073709551616 + lo) % d) : apN 6 hi lo d = r := by
  simp only [apN]
  rw [if_pos (by omega)]
  have h1 : r < d := by rw [hr]; exact Nat.mod_lt _ (by omega)
  have e : (hi : Int) * 18446744073709551616 + lo = ((hi * 18446744073709551616 + lo : Nat) : Int) := by omega
  have : ((hi : Int) * 18446744073709551616 + lo) % d = (r : Nat) := by rw [hr, e, Int.natCast_emod]
  rw [this]; omega
abbrev dvArgs : List SV := [.int .u64 (.var 0), .int .u64 (.var 1), .int .u64 (.var 2)]
abbrev dvOut : SV := .tuple [.int .u64 (.ar .or .u64 (.ar .shl .u64 (.var 12) (.lit 32)) (.var 16)), .int .u64 (.ar .shr .u64 (.var 17) (.var 18)), .bool (.lit true)]
abbrev dvXA : Ctx := { pc := [], rg := dvR, ar := arN, ct := conCt dvR arN [logCon], lp := dvlA, nm := dvNA }
abbrev dvXB : Ctx := { pc := [], rg := dvR, ar := arN, ct := conCt dvR arN [logCon], lp := dvlB, nm := dvNB }
def dvTA : Tree := .node (.cmp .lss (.var 0) (.var 2)) (.node (.cmp .lss (.lit 0) (.var 18)) (.leaf dvOut) .dead) .dead
def dvTB : Tree := .node (.cmp .lss (.var 0) (.var 2)) (.node (.cmp .lss (.lit 0) (.var 18)) .dead (.leaf dvOut)) .dead
theorem dvTA_ok : dvTA.check Try.prog dvXA 600 100 dvArgs = true := by kernel_rfl
theorem dvTB_ok : dvTB.check Try.prog dvXB 600 100 dvArgs = true := by kernel_rfl
theorem dvT0_ok : (Tree.node (.cmp .lss (.var 0) (.var 2)) .dead (.leaf (.tuple [.int .u64 (.lit 0), .int .u64 (.lit 0), .bool (.lit false)]))).check Try.prog { pc := [], rg := [u64R, u64R, u64R] } 600 100 dvArgs = true := by kernel_rfl
theorem pow_cast (k : Nat) : (2 : Int) ^ k = ((2 ^ k : Nat) : Int) := (Int.natCast_pow 2 k).symm
theorem wdiv_A {hi lo d hi' lo' q1 hi2 q2 hi3 : Nat} (h : DvE hi lo d (upOf d) hi' lo' q1 hi2 q2 hi3) (hd : d < 18446744073709551616) (eh : hi' = hi * 2 ^ upOf d + lo / 2 ^ (64 - upOf d)) (el : lo' = lo * 2 ^ upOf d % 18446744073709551616) (hu : 0 < upOf d) (w : World) :
    Calls Try.prog 100 #[.int .u64 hi, .int .u64 lo, .int .u64 d] w fun e w' => e = .returned (.tuple #[.int .u64 (apN 5 hi lo d), .int .u64 (apN 6 hi lo d), .bool true]) ∧ Below w.heap.size w w' := by
  have hlt := h.lt
  have hu1 := h.fu
  have hlo := h.dlo
  have d2 := h.d2
  obtain ⟨_, _, _, hw⟩ := upOf_spec (show 0 < d by omega) hd
  have hrg := h.rg hd []
  rw [List.append_nil] at hrg
  obtain ⟨q, r, l1, l2, l3, l4⟩ := h.ends
  have hql : q1 * 4294967296 + q2 < 18446744073709551616 := by omega
  have hp : 0 < 2 ^ upOf d := Nat.pow_pos (by decide)
  have key := tree_sound (P := Try.prog) mixed (ρ := envOf (dvL hi lo d (upOf d) hi' lo' q1 hi2 q2 hi3) (ap := apN)) (n := 600) (f := 100) (args := dvArgs) dvTA (X := dvXA)
    (knows_env rfl hrg arN_ok (by intro _ _ h; cases h) ?_) ⟨fun c hc => (by cases hc), fun pc hpc f vs v h _ φ w _ => conCt_ok (AllIn.get0 hrg) arN_ok (fun c hc => by rw [List.mem_singleton.1 hc]; exact logCon_ok (numA_N rfl)) hpc h φ w, fun f p u L hL c hc hids => ?_⟩ (Tree.ok_of_check dvTA_ok) ?_ w
  · refine key.mono ?_
    rintro e w' ⟨rfl, hb⟩
    refine ⟨?_, hb⟩
    have c1 : ((hi : Int) < d) := by omega
    have c2 : ((0 : Int) < upOf d) := by omega
    simp only [dvTA, Tree.val, BE.den, cmpI, IE.den, SV.den, SV.denL, dvL, List.getD_cons_zero, List.getD_cons_succ, decide_eq_true c1, decide_eq_true c2, cond_true, cond_false]
    rw [ap5_of hlt q hql, ap6_of hlt hd r, shl32, or32 (by omega) (by omega) (by omega), shrW _ _ (by omega), pow_cast]
    have e1 : (q1 : Int) * 4294967296 % 18446744073709551616 + q2 = ((q1 * 4294967296 + q2 : Nat) : Int) := by omega
    rw [e1, Int.natCast_ediv]
  · intro p hp'
    have c3 : (2 : Int) ^ upOf d = ((2 ^ upOf d : Nat) : Int) := pow_cast _
    have eup : plI .sub 63 (apN 0 d 0 0) = upOf d := by
      rw [log_in_ap (by omega)]; show (63 : Int) - wLog d = _; rw [hw]; omega
    have ed : arI .shl .u64 d (upOf d : Nat) = ((d * 2 ^ upOf d : Nat) : Int) := by
      rw [shlW _ _ (by omega), c3, ← Int.natCast_mul]; omega
    have e6 : arI .and .u64 ((d * 2 ^ upOf d : Nat) : Int) 4294967295 = ((d * 2 ^ upOf d % 4294967296 : Nat) : Int) := by
      rw [and32 (by omega)]; omega
    have e7 : arI .shr .u64 ((d * 2 ^ upOf d : Nat) : Int) 32 = ((d * 2 ^ upOf d / 4294967296 : Nat) : Int) := by
      rw [shr32]; omega
    have hlo' := h.flo
    have hhi' := h.fhi
    have e8 : arI .shr .u64 (lo' : Int) 32 = ((lo' / 4294967296 : Nat) : Int) := by rw [shr32]; omega
    have e9 : arI .and .u64 (lo' : Int) 4294967295 = ((lo' % 4294967296 : Nat) : Int) := by rw [and32 (by omega)]; omega
    have q0 : ∀ x y : Nat, x < 18446744073709551616 → arI .quo .u64 (x : Int) (y : Int) = ((x / y : Nat) : Int) := by
      intro x y hx
      show IntKind.u64.wrap ((x : Int).tdiv y) = _
      rw [Int.tdiv_eq_ediv_of_nonneg (by omega), ← Int.natCast_ediv, IntKind.wrap_u64]
      have := Nat.div_le_self x y
      generalize x / y = z at this ⊢
      clear eup ed e6 e7 e8 e9
      omega
    have m1 := mod_word (H := hi') (a := lo' / 4294967296) (d := d * 2 ^ upOf d) (by omega) h.fq1 d2
    have m2 := mod_word (H := hi2) (a := lo' % 4294967296) (d := d * 2 ^ upOf d) (by omega) h.fq2 d2
    rw [← h.fh2] at m1
    rw [← h.fh3] at m2
    have e4 : arI .or .u64 (arI .shl .u64 hi (upOf d : Nat)) (arI .shr .u64 lo (plI .sub 64 (upOf d : Nat))) = hi' := by
      have hh : hi * 2 ^ upOf d < 18446744073709551616 := by
        have := Nat.mul_le_mul_right (2 ^ upOf d) (Nat.le_of_lt hlt)
        omega
      have s1 : arI .shl .u64 hi (upOf d : Nat) = ((hi * 2 ^ upOf d : Nat) : Int) := by
        rw [shlW _ _ (by omega), c3, ← Int.natCast_mul]; omega
      have s2 : arI .shr .u64 lo (plI .sub 64 (upOf d : Nat)) = ((lo / 2 ^ (64 - upOf d) : Nat) : Int) := by
        show arI .shr .u64 lo ((64 : Int) - (upOf d : Nat)) = _
        rw [show (64 : Int) - (upOf d : Nat) = ((64 - upOf d : Nat) : Int) by omega, shrW _ _ (by omega), pow_cast, Int.natCast_ediv]
      rw [s1, s2, orW (upOf d) (by omega) (by omega) ?_ ?_, eh]
      · push_cast; rfl
      · rw [c3, ← Int.natCast_emod, Nat.mul_mod_left]; rfl
      · rw [c3]
        have : lo / 2 ^ (64 - upOf d) < 2 ^ upOf d := by
          rw [Nat.div_lt_iff_lt_mul (Nat.pow_pos (by decide)), ← Nat.pow_add, show upOf d + (64 - upOf d) = 64 by omega]; exact hlo
        generalize lo / 2 ^ (64 - upOf d) = z at this ⊢
        generalize 2 ^ upOf d = y at this ⊢
        clear m1 m2 s1 s2 eup ed e6 e7 e8 e9
        omega
    have e5 : arI .shl .u64 lo (upOf d : Nat) = lo' := by
      rw [shlW _ _ (by omega), c3, ← Int.natCast_mul, el]; omega
    simp only [dvNA, List.mem_cons, List.not_mem_nil, or_false] at hp'
    rcases hp' with rfl | rfl | rfl | rfl | rfl | rfl | rfl | rfl | rfl | rfl | rfl | rfl
    · exact eup
    · exact ed
    · exact e4
    · exact e5
    · exact e6
    · exact e7
    · exact e8
    · exact e9
    · exact q0 _ _ (by omega)
    · simp only [hi2A, IE.den, dvL, List.getD_cons_zero, List.getD_cons_succ, shl32, addW, mulW, subW]; exact m1
    · exact q0 _ _ (by omega)
    · simp only [hi3E, IE.den, dvL, List.getD_cons_zero, List.getD_cons_succ, shl32, addW, mulW, subW]; exact m2
  · simp only [dvXA, dvlA] at hL
    split at hL
    · rename_i hfp
      simp only [Bool.and_eq_true, Nat.beq_eq, decide_eq_true_eq] at hfp
      obtain ⟨rfl, rfl⟩ := hfp
      split at hL
      · cases hL; exact dgA1_loop h hd hc
      · split at hL
        · cases hL; exact dgA2_loop h hd hc
        · cases hL
    · cases hL
  · have c1 : ((hi : Int) < d) := by omega
    have c2 : ((0 : Int) < upOf d) := by omega
    simp only [dvTA, Tree.live, BE.den, cmpI, IE.den, dvL, List.getD_cons_zero, List.getD_cons_succ, decide_eq_true c1, decide_eq_true c2, cond_true, cond_false]
theorem wdiv_B {hi lo d hi' lo' q1 hi2 q2 hi3 : Nat} (h : DvE hi lo d (upOf d) hi' lo' q1 hi2 q2 hi3) (hd : d < 18446744073709551616) (eh : hi' = hi * 2 ^ upOf d + lo / 2 ^ (64 - upOf d)) (el : lo' = lo * 2 ^ upOf d % 18446744073709551616) (hu : upOf d = 0) (w : World) :
    Calls Try.prog 100 #[.int .u64 hi, .int .u64 lo, .int .u64 d] w fun e w' => e = .returned (.tuple #[.int .u64 (apN 5 hi lo d), .int .u64 (apN 6 hi lo d), .bool true]) ∧ Below w.heap.size w w' := by
  have hlt := h.lt
  have hu1 := h.fu
  have hlo := h.dlo
  have d2 := h.d2
  obtain ⟨_, _, _, hw⟩ := upOf_spec (show 0 < d by omega) hd
  have hrg := h.rg hd []
  rw [List.append_nil] at hrg
  obtain ⟨q, r, l1, l2, l3, l4⟩ := h.ends
  have hql : q1 * 4294967296 + q2 < 18446744073709551616 := by omega
  have hp : 0 < 2 ^ upOf d := Nat.pow_pos (by decide)
  have key := tree_sound (P := Try.prog) mixed (ρ := envOf (dvL hi lo d (upOf d) hi' lo' q1 hi2 q2 hi3) (ap := apN)) (n := 600) (f := 100) (args := dvArgs) dvTB (X := dvXB)
    (knows_env rfl hrg arN_ok (by intro _ _ h; cases h) ?_) ⟨fun c hc => (by cases hc), fun pc hpc f vs v h _ φ w _ => conCt_ok (AllIn.get0 hrg) arN_ok (fun c hc => by rw [List.mem_singleton.1 hc]; exact logCon_ok (numA_N rfl)) hpc h φ w, fun f p u L hL c hc hids => ?_⟩ (Tree.ok_of_check dvTB_ok) ?_ w
  · refine key.mono ?_
    rintro e w' ⟨rfl, hb⟩
    refine ⟨?_, hb⟩
    have c1 : ((hi : Int) < d) := by omega
    have c2 : ¬ ((0 : Int) < upOf d) := by omega
    simp only [dvTB, Tree.val, BE.den, cmpI, IE.den, SV.den, SV.denL, dvL, List.getD_cons_zero, List.getD_cons_succ, decide_eq_true c1, decide_eq_false c2, cond_true, cond_false]
    rw [ap5_of hlt q hql, ap6_of hlt hd r, shl32, or32 (by omega) (by omega) (by omega), shrW _ _ (by omega), pow_cast]
    have e1 : (q1 : Int) * 4294967296 % 18446744073709551616 + q2 = ((q1 * 4294967296 + q2 : Nat) : Int) := by omega
    rw [e1, Int.natCast_ediv]
  · intro p hp'
    have c3 : (2 : Int) ^ upOf d = ((2 ^ upOf d : Nat) : Int) := pow_cast _
    have eup : plI .sub 63 (apN 0 d 0 0) = upOf d := by
      rw [log_in_ap (by omega)]; show (63 : Int) - wLog d = _; rw [hw]; omega
    have ed : arI .shl .u64 d (upOf d : Nat) = ((d * 2 ^ upOf d : Nat) : Int) := by
      rw [shlW _ _ (by omega), c3, ← Int.natCast_mul]; omega
    have e6 : arI .and .u64 ((d * 2 ^ upOf d : Nat) : Int) 4294967295 = ((d * 2 ^ upOf d % 4294967296 : Nat) : Int) := by
      rw [and32 (by omega)]; omega
    have e7 : arI .shr .u64 ((d * 2 ^ upOf d : Nat) : Int) 32 = ((d * 2 ^ upOf d / 4294967296 : Nat) : Int) := by
      rw [shr32]; omega
    have hlo' := h.flo
    have hhi' := h.fhi
    have e8 : arI .shr .u64 (lo' : Int) 32 = ((lo' / 4294967296 : Nat) : Int) := by rw [shr32]; omega
    have e9 : arI .and .u64 (lo' : Int) 4294967295 = ((lo' % 4294967296 : Nat) : Int) := by rw [and32 (by omega)]; omega
    have q0 : ∀ x y : Nat, x < 18446744073709551616 → arI .quo .u64 (x : Int) (y : Int) = ((x / y : Nat) : Int) := by
      intro x y hx
      show IntKind.u64.wrap ((x : Int).tdiv y) = _
      rw [Int.tdiv_eq_ediv_of_nonneg (by omega), ← Int.natCast_ediv, IntKind.wrap_u64]
      have := Nat.div_le_self x y
      generalize x / y = z at this ⊢
      clear eup ed e6 e7 e8 e9
      omega
    have m1 := mod_word (H := hi') (a := lo' / 4294967296) (d := d * 2 ^ upOf d) (by omega) h.fq1 d2
    have m2 := mod_word (H := hi2) (a := lo' % 4294967296) (d := d * 2 ^ upOf d) (by omega) h.fq2 d2
    rw [← h.fh2] at m1
    rw [← h.fh3] at m2
    have eh' : hi' = hi := by
      rw [eh, hu, Nat.pow_zero, Nat.mul_one, Nat.div_eq_of_lt (by show lo < 2 ^ 64; exact hlo)]; rfl
    have el' : lo' = lo := by rw [el, hu, Nat.pow_zero, Nat.mul_one]; omega
    simp only [dvNB, List.mem_cons, List.not_mem_nil, or_false] at hp'
    rcases hp' with rfl | rfl | rfl | rfl | rfl | rfl | rfl | rfl | rfl | rfl
    · exact eup
    · exact ed
    · exact e6
    · exact e7
    · rw [el'] at e8; rw [el']; exact e8
    · rw [el'] at e9; rw [el']; exact e9
    · rw [eh']; exact q0 _ _ (by omega)
    · simp only [hi2B, IE.den, dvL, List.getD_cons_zero, List.getD_cons_succ, shl32, addW, mulW, subW]; rw [eh'] at m1; exact m1
    · exact q0 _ _ (by omega)
    · simp only [hi3E, IE.den, dvL, List.getD_cons_zero, List.getD_cons_succ, shl32, addW, mulW, subW]; exact m2
  · simp only [dvXB, dvlB] at hL
    split at hL
    · rename_i hfp
      simp only [Bool.and_eq_true, Nat.beq_eq, decide_eq_true_eq] at hfp
      obtain ⟨rfl, rfl⟩ := hfp
      have eh2 : hi' = hi := by
        rw [eh, hu, Nat.pow_zero, Nat.mul_one, Nat.div_eq_of_lt (by show lo < 2 ^ 64; exact hlo)]; rfl
      have el2 : lo' = lo := by rw [el, hu, Nat.pow_zero, Nat.mul_one]; omega
      split at hL
      · cases hL; exact dgB1_loop h hd eh2.symm el2.symm hc
      · split at hL
        · cases hL; exact dgB2_loop h hd eh2.symm el2.symm hc
        · cases hL
    · cases hL
  · have c1 : ((hi : Int) < d) := by omega
    have c2 : ¬ ((0 : Int) < upOf d) := by omega
    simp only [dvTB, Tree.live, BE.den, cmpI, IE.den, dvL, List.getD_cons_zero, List.getD_cons_succ, decide_eq_true c1, decide_eq_false c2, cond_true, cond_false]
theorem wdiv_any (hi lo d : Int) (h : InU hi) (l : InU lo) (k : InU d) (w : World) :
    Calls Try.prog 100 #[.int .u64 hi, .int .u64 lo, .int .u64 d] w fun e w' => e = .returned (.tuple #[.int .u64 (apN 5 hi lo d), .int .u64 (apN 6 hi lo d), .bool (decide (hi < d))]) ∧ Below w.heap.size w w' := by
  by_cases hlt : hi < d
  · obtain ⟨hi, rfl⟩ := Int.eq_ofNat_of_zero_le h.1
    obtain ⟨lo, rfl⟩ := Int.eq_ofNat_of_zero_le l.1
    obtain ⟨d, rfl⟩ := Int.eq_ofNat_of_zero_le k.1
    have h1 := h.2
    have l1 := l.2
    have k1 := k.2
    obtain ⟨hi', lo', q1, hi2, q2, hi3, hE, eh, el⟩ := DvE.mk' (hi := hi) (lo := lo) (d := d) (by omega) (by omega) (by omega)
    rw [decide_eq_true hlt]
    by_cases hu : 0 < upOf d
    · exact wdiv_A hE (by omega) eh el hu w
    · exact wdiv_B hE (by omega) eh el (by omega) w
  · have key := tree_sound (P := Try.prog) mixed (ρ := envOf [hi, lo, d]) (n := 600) (f := 100) (args := dvArgs) _ (X := { pc := [], rg := [u64R, u64R, u64R] }) (knows_env rfl ⟨h, l, k, trivial⟩ (fun f v h => by cases h)) (knowsC_none rfl rfl rfl) (Tree.ok_of_check dvT0_ok) (by
      simp only [Tree.live, BE.den, cmpI, IE.den, List.getD_cons_zero, List.getD_cons_succ, decide_eq_false hlt, cond_false]) w
    refine key.mono ?_
    rintro e w' ⟨rfl, hb⟩
    refine ⟨?_, hb⟩
    simp only [Tree.val, BE.den, cmpI, IE.den, SV.den, SV.denL, List.getD_cons_zero, List.getD_cons_succ, decide_eq_false hlt, cond_false]
    simp only [apN, if_neg hlt]

end Go.Proofs.Ytopgidgkpafeeaa
/- Contracts of wide's root and quotient, as the evaluator takes them. -/
namespace Go.Proofs.Ytopgidgkpafeeaa
open Go Go.RowKit Ev
set_option linter.unusedVariables false

noncomputable def wdivCon : Con := ⟨100, [.u64, .u64, .u64], fun es => match es with | [a, b, c] => .tuple [.int .u64 (mkAp 5 a b c), .int .u64 (mkAp 6 a b c), .bool (mkCmp .lss a c)] | _ => .any⟩
theorem wdivCon_ok {ρ : Env} (ha : NumA ρ) : wdivCon.holds Try.prog ρ := by
  intro es hi φ w
  match es, hi with
  | [e, d, g], hi =>
    obtain ⟨h0, h1, h2, _⟩ := hi
    refine (wdiv_any (e.den ρ) (d.den ρ) (g.den ρ) h0 h1 h2 w).mono ?_
    rintro e' w' ⟨rfl, hb⟩
    refine ⟨?_, hb⟩
    simp only [wdivCon, SV.den, SV.denL, mkAp_den ha (show 5 < 20 by decide), mkAp_den ha (show 6 < 20 by decide), mkCmp_den]
    rfl
noncomputable def wsqrtCon : Con := ⟨102, [.u64, .u64], fun es => match es with | [a, b] => .int .u64 (mkAp 7 a b (.lit 0)) | _ => .any⟩
theorem wsqrtCon_ok {ρ : Env} (ha : NumA ρ) : wsqrtCon.holds Try.prog ρ := by
  intro es hi φ w
  match es, hi with
  | [e, d], hi =>
    obtain ⟨h0, h1, _⟩ := hi
    refine (wsqrt_any (e.den ρ) (d.den ρ) h0 h1 w).mono ?_
    rintro e' w' ⟨rfl, hb⟩
    refine ⟨?_, hb⟩
    simp only [wsqrtCon, SV.den, mkAp_den ha (show 7 < 20 by decide)]
    rfl
end Go.Proofs.Ytopgidgkpafeeaa
