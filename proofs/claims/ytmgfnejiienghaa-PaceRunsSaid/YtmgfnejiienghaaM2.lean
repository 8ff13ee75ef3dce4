/- Small facts on worlds, for every walk. -/
import Derived.WalkKit
import Derived.WalkSpells
import Derived.WalkLawsBesides
import Derived.Lib.Hide
import Derived.Lib.QuietBelow
import Derived.StillTailTactics
import Derived.Laws.Rows
import Derived.Laws.CopyOwn
import Derived.Deep.WholeRow
import Derived.Test.YtmgfnejiienghaaM1
namespace Go.Proofs.Ytmgfnejiienghaa.Wb
open Go.RowKit
theorem x : True := trivial
end Go.Proofs.Ytmgfnejiienghaa.Wb
