/- Slices that grow in others' hands, too. -/
import Derived.Test.YtfilheaaacffmaaQLexBackALA4
set_option linter.unusedSimpArgs false
set_option linter.unusedVariables false
set_option maxRecDepth 100000
set_option maxHeartbeats 16000000
namespace Go.Proofs.Ytfilheaaacffmaa.AL
open Go Go.Proofs
/-- A call is handed a slice of one's own that nobody writes to any more. -/
theorem acalls_shut {P : Program} {f : Nat} {pre post : List AV} {y z : AV} {H H2 : AHeap} {K : AV → AHeap → Prop} (hS : Shut H y H2 z) (h : (ACalls P) f (pre ++ z :: post) H2 K) : (ACalls P) f (pre ++ y :: post) H K := by
  intro g w vs hSim hR o act next Qc hn
  obtain ⟨u, hu, hrep⟩ := Reps.get hR (i := pre.length) (y := y) (by simp)
  obtain ⟨g', hE, hS', hr'⟩ := hS.sound hSim hrep
  have hR2 := Reps.replace hE hR (fun v hv => by rw [hu] at hv; obtain rfl := Option.some.inj hv; exact hr')
  exact h g' w vs hS' hR2 o act next Qc (fun y' H' g2 w2 v hk hE2 => hn y' H' g2 w2 v hk (hE.trans hE2))
section
variable {H G G2 : AHeap} {K : AV → AHeap → Prop} {y v v' v2 : AV} {n0 : Nat}
end
end Go.Proofs.Ytfilheaaacffmaa.AL

