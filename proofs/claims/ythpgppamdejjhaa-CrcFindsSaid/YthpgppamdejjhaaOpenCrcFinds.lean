/- Written by a program (xrow.py) for this claim: how the arguments of the law CrcFinds are opened, and its pure statement. -/
import Derived.Test.YthpgppamdejjhaaGFindsLaw
import Derived.Test.YthpgppamdejjhaaGOpen
import Derived.Test.YthpgppamdejjhaaXK
import Derived.KernelRfl
set_option linter.unusedVariables false
namespace Go.Proofs.Ythpgppamdejjhaa.CrcFindsOpen
open Go.RowKit Go.Proofs.Ythpgppamdejjhaa Go.Proofs.Ythpgppamdejjhaa.X Go.Proofs.YthpgppamdejjhaaW.PrintWords Go.Proofs.YthpgppamdejjhaaW.PrintLast
def Pure : Prop := ∀ (a0 : ByteArray) (a1 : Int) (a2 : Int), a0.size ≤ 140737488351232 → (Lit.int .u16 a1).wf = true → (Lit.int .u32 a2).wf = true → ∃ k, G.CrcFinds.f k a0 a1 a2 = some true
end Go.Proofs.Ythpgppamdejjhaa.CrcFindsOpen
