/- Slices that grow in others' hands, too. -/
import Derived.Test.YtfiihgaohihppaaDoorQPathWalkALA4
set_option linter.unusedSimpArgs false
set_option linter.unusedVariables false
set_option maxRecDepth 100000
set_option maxHeartbeats 16000000
namespace Go.Proofs.YtfiihgaohihppaaDoor.AL
open Go Go.Proofs
section
variable {H G G2 : AHeap} {K : AV → AHeap → Prop} {y v v' v2 : AV} {n0 : Nat}
theorem slat_ne2 {e sz j e' g : Nat} {xs cs : List AV} (h : SlAt n0 G e sz v xs) (hg : G.get j = some (.row e' g cs)) (hne : e' ≠ e) : ∀ gen off len sz, v ≠ .wr j gen off len sz := by
  intro gen off len sz' hv
  rcases h with ⟨rfl, rfl⟩ | ⟨id, gen', rfl, hid, hg'⟩
  · cases hv
  · cases hv
    rw [hg] at hg'
    cases hg'
    exact hne rfl
end
end Go.Proofs.YtfiihgaohihppaaDoor.AL

