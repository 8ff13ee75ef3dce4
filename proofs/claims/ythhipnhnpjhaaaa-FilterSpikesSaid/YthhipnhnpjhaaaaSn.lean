/- The walks over setup.Name and setup.Faults. -/
import Derived.Test.YthhipnhnpjhaaaaSc
namespace Go.Proofs.Ythhipnhnpjhaaaa
open Go.RowKit
set_option linter.unusedVariables false
set_option maxRecDepth 100000


end Go.Proofs.Ythhipnhnpjhaaaa
