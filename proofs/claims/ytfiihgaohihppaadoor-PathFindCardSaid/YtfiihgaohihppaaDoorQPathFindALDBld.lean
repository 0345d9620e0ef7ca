/- The code of builders, told. -/
import Derived.Test.YtfiihgaohihppaaDoorQPathFindALA3
import Derived.Test.YtfiihgaohihppaaDoorProg
import Derived.KernelRfl
set_option maxRecDepth 100000
namespace Go.Proofs.YtfiihgaohihppaaDoor.AL
open Go Go.Proofs
end Go.Proofs.YtfiihgaohihppaaDoor.AL

