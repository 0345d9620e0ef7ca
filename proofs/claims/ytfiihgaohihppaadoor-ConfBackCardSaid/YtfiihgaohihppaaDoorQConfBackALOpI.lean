/- Rows of laws with a slice of whole numbers. -/
import Derived.Test.YtfiihgaohihppaaDoorQConfBackALA4
set_option linter.unusedSimpArgs false
set_option linter.unusedVariables false
namespace Go.Proofs.YtfiihgaohihppaaDoor.AL
open Go Go.Proofs
end Go.Proofs.YtfiihgaohihppaaDoor.AL

