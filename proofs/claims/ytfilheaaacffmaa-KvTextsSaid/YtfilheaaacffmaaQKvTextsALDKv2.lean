/- The code of a measure of texts, told. -/
import Derived.Test.YtfilheaaacffmaaQKvTextsALA3
import Derived.Test.YtfilheaaacffmaaProg
import Derived.KernelRfl
set_option maxRecDepth 100000
namespace Go.Proofs.Ytfilheaaacffmaa.AL
open Go Go.Proofs
end Go.Proofs.Ytfilheaaacffmaa.AL

