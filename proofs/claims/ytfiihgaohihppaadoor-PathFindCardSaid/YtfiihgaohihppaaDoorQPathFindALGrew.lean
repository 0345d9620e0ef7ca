/- Slices that grow in others' hands, too. -/
import Derived.Test.YtfiihgaohihppaaDoorQPathFindALA4
set_option linter.unusedSimpArgs false
set_option linter.unusedVariables false
set_option maxRecDepth 100000
set_option maxHeartbeats 16000000
namespace Go.Proofs.YtfiihgaohihppaaDoor.AL
open Go Go.Proofs
section
variable {H G G2 : AHeap} {K : AV → AHeap → Prop} {y v v' v2 : AV} {n0 : Nat}
end
end Go.Proofs.YtfiihgaohihppaaDoor.AL

