/- Trees that are handed in. -/
import Derived.Test.YtfiihgaohihppaaDoorQConfBackALTree1
import Derived.Test.YtfiihgaohihppaaDoorQConfBackALA4
set_option linter.unusedSimpArgs false
set_option linter.unusedVariables false
namespace Go.Proofs.YtfiihgaohihppaaDoor.AL
open Go Go.Proofs
/-! ### trees that are handed in -/
def YStr (a : List AV) : Prop := ∃ s : ByteArray, s.size ≤ 9223372036854775807 ∧ a = [.str s]
end Go.Proofs.YtfiihgaohihppaaDoor.AL

