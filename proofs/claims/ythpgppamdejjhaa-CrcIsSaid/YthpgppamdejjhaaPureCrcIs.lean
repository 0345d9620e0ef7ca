/- CrcIs, without the program: the sum of any bytes, both ways, and behind any sum, is the reference's. -/
import Derived.Test.YthpgppamdejjhaaX3
import Derived.Test.YthpgppamdejjhaaGCrcPure
namespace Go.Proofs.Ythpgppamdejjhaa.Pure
open Go.RowKit Go.Proofs.Ythpgppamdejjhaa.X Go.Proofs.YthpgppamdejjhaaW.PrintWords Go.Proofs.YthpgppamdejjhaaW.PrintLast
open Go.Proofs.Ythpgppamdejjhaa.G (crcSum crcMore)
theorem CrcIs : postilionlaw02_CrcIs.Pure := by
  intro a s _ hs
  refine ⟨s.size + 10 + 9, ?_⟩
  have h : s.size ≤ 9223372036854775807 := by omega
  unfold postilionlaw02_CrcIs.f
  simp only [pentry, rentry, awake02, Option.bind_some, if_true]
  split
  · rfl
  · rw [psum _ (by simpa using h), Option.bind_some, rsum s h _ (by omega), Option.bind_some, if_pos rfl, pslow s h]
    simp only [Option.bind_some, if_true]
    rw [pmore a s h, Option.bind_some, rmore a s h _ (by omega)]
    simp
end Go.Proofs.Ythpgppamdejjhaa.Pure
