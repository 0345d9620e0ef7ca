/- Trees that are handed in. -/
import Derived.Test.YtblflecalomgfaaQGrammarNamesALTree1
import Derived.Test.YtblflecalomgfaaQGrammarNamesALA4
set_option linter.unusedSimpArgs false
set_option linter.unusedVariables false
namespace Go.Proofs.Ytblflecalomgfaa.AL
open Go Go.Proofs
/-! ### trees that are handed in -/
end Go.Proofs.Ytblflecalomgfaa.AL

