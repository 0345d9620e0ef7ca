/- Trees that are handed in. -/
import Derived.Test.YtfiihgaohihppaaDoorQPathIsALTree1
import Derived.Test.YtfiihgaohihppaaDoorQPathIsALA4
set_option linter.unusedSimpArgs false
set_option linter.unusedVariables false
namespace Go.Proofs.YtfiihgaohihppaaDoor.AL
open Go Go.Proofs
/-! ### trees that are handed in -/
end Go.Proofs.YtfiihgaohihppaaDoor.AL

