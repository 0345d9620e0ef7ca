/- Builders: what their functions do in any program that bears them (after the shelf's own walks), over worlds of which only the builder's cells are told. -/
import Derived.Test.YtfiihgaohihppaaDoorQPathFindALCalls
import Derived.Test.YtfiihgaohihppaaDoorQPathFindALA4
import Derived.Shelf.Strings.Builder1
set_option linter.unusedVariables false
set_option linter.unusedSimpArgs false
namespace Go.Proofs.YtfiihgaohihppaaDoor.AL
open Go Go.Proofs Go.Shelf Go.RowKit
section
variable {P : Program} {ρ : Ren}
end
end Go.Proofs.YtfiihgaohihppaaDoor.AL

