/- Law 14: FilterSpikes. -/
import Derived.Test.YthhipnhnpjhaaaaT14s
namespace Go.Proofs.Ythhipnhnpjhaaaa
open Go Go.RowKit Ev
set_option linter.unusedVariables false
set_option linter.unusedSimpArgs false
set_option maxRecDepth 100000
set_option maxHeartbeats 0
theorem fs_p010 : runFn Try.prog (fsC [((.cmp .lss (.pl .sub (.var 5) (.lit 12884901888)) (.lit 549755813888)), false), ((.cmp .lss (.ar .add .u64 (.ar .add .u64 (.pl .add (.pl .add (.lit 0) (.var 8)) (.var 8)) (.var 8)) (.var 8)) (.ar .add .u64 (.pl .add (.pl .add (.lit 0) (.var 8)) (.var 8)) (.var 8))), true), ((.cmp .lss (.ar .add .u64 (.pl .add (.pl .add (.lit 0) (.var 8)) (.var 8)) (.var 8)) (.pl .add (.pl .add (.lit 0) (.var 8)) (.var 8))), false), ((.cmp .lss (.pl .add (.pl .add (.lit 0) (.var 8)) (.var 8)) (.pl .add (.lit 0) (.var 8))), false)]) 3000 7 fsA = .ok (.bool fsE01) := by kernel_rfl
theorem fs_p101 : runFn Try.prog (fsC [((.cmp .lss (.pl .sub (.var 5) (.lit 12884901888)) (.lit 549755813888)), true), ((.cmp .lss (.ar .add .u64 (.ar .add .u64 (.pl .add (.pl .add (.lit 0) (.var 8)) (.var 8)) (.var 8)) (.var 8)) (.ar .add .u64 (.pl .add (.pl .add (.lit 0) (.var 8)) (.var 8)) (.var 8))), false), ((.cmp .lss (.ar .add .u64 (.pl .add (.pl .add (.lit 0) (.var 8)) (.var 8)) (.var 8)) (.pl .add (.pl .add (.lit 0) (.var 8)) (.var 8))), true), ((.cmp .lss (.pl .add (.pl .add (.lit 0) (.var 8)) (.var 8)) (.pl .add (.lit 0) (.var 8))), false)]) 3000 7 fsA = .ok (.bool (.lit true)) := by kernel_rfl
theorem fs_p100 : runFn Try.prog (fsC [((.cmp .lss (.pl .sub (.var 5) (.lit 12884901888)) (.lit 549755813888)), false), ((.cmp .lss (.ar .add .u64 (.ar .add .u64 (.pl .add (.pl .add (.lit 0) (.var 8)) (.var 8)) (.var 8)) (.var 8)) (.ar .add .u64 (.pl .add (.pl .add (.lit 0) (.var 8)) (.var 8)) (.var 8))), false), ((.cmp .lss (.ar .add .u64 (.pl .add (.pl .add (.lit 0) (.var 8)) (.var 8)) (.var 8)) (.pl .add (.pl .add (.lit 0) (.var 8)) (.var 8))), true), ((.cmp .lss (.pl .add (.pl .add (.lit 0) (.var 8)) (.var 8)) (.pl .add (.lit 0) (.var 8))), false)]) 3000 7 fsA = .ok (.bool fsE10) := by kernel_rfl
end Go.Proofs.Ythhipnhnpjhaaaa
