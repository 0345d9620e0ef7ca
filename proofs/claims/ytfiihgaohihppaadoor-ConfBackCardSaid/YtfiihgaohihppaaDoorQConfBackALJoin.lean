/- The kit's Join, laid at this program. -/
import Derived.Test.YtfiihgaohihppaaDoorQConfBackALCalls
import Derived.Test.YtfiihgaohihppaaDoorQConfBackALA4
import Derived.Test.YtfiihgaohihppaaDoorProg
import Derived.Shelf.Lay
import Derived.Shelf.Strings.OnBuilder
import Derived.KernelRfl
set_option linter.unusedVariables false
set_option maxRecDepth 100000
namespace Go.Proofs
open Go.Shelf
shelf_lay Lays.n156 Nm 156 at Tryd as Tryd.lays156
namespace YtfiihgaohihppaaDoor.AL
open Go Go.RowKit
end YtfiihgaohihppaaDoor.AL
end Go.Proofs

