/- CrcFinds, without the program: with its arguments in their kinds the law's function answers true. -/
import Derived.Test.YthpgppamdejjhaaOpenCrcFinds
import Derived.Test.YthpgppamdejjhaaGCrcPure
import Derived.OpenShut
namespace Go.Proofs.Ythpgppamdejjhaa.Pure
open Go Go.RowKit Go.Proofs.YthpgppamdejjhaaW.PrintWords Go.Proofs.YthpgppamdejjhaaW.PrintLast
theorem CrcFinds : CrcFindsOpen.Pure := by
  intro a0 a1 a2 _ h1 h2
  refine ⟨9, ?_⟩
  unfold G.CrcFinds.f
  have b1 := bounds_u16 h1
  have b2 := bounds_u32 h2
  rw [if_pos ⟨b1.1, by omega, b2.1, by omega, awake02 0⟩]
end Go.Proofs.Ythpgppamdejjhaa.Pure
