/- What is put is read as it was; what is read may be put. -/
import Derived.Test.YtfilheaaacffmaaQLexJoinsALLex10
set_option linter.unusedSimpArgs false
set_option linter.unusedVariables false
set_option maxRecDepth 100000
set_option maxHeartbeats 16000000
namespace Go.Proofs.Ytfilheaaacffmaa.AL
open Go Go.Proofs
end Go.Proofs.Ytfilheaaacffmaa.AL

