/- How an array of two whole numbers is opened. -/
import Derived.Test.YthpgppamdejjhaaGOpen
import Derived.OpenShut
set_option linter.unusedVariables false
namespace Go.Proofs.Ythpgppamdejjhaa.O
open Go Go.RowKit Go.Proofs.YthpgppamdejjhaaW.PrintWords
theorem opens_array2 {P : Program} {t e : TypeId} {k : IntKind} (hu : P.underlying t = some (.array 2 e)) (he : P.underlying e = some (.int k)) (hce : P.cellsOf e = 1) (hct : P.cellsOf t = 2) :
    Opens P t (Kd.pair (Kd.int k) (Kd.int k)) (fun p : Int × Int => (Lit.int k p.1).wf = true ∧ (Lit.int k p.2).wf = true) := by
  intro n H enc W cs x h
  obtain ⟨xs, m, rfl, rfl, hl, hx, hi⟩ := DataW.trod_array hu h
  rw [hct] at hl
  obtain ⟨c0, c1, rfl⟩ : ∃ c0 c1, cs = [c0, c1] := by
    match cs, hl with
    | [a, b], _ => exact ⟨a, b, rfl⟩
  have h0 := hi 0 (by omega)
  have h1 := hi 1 (by omega)
  rw [hce, List.getElem?_eq_getElem (by omega)] at h0 h1
  obtain ⟨n0, e0, _, w0⟩ := DataW.trod_int he h0
  obtain ⟨n1, e1, _, w1⟩ := DataW.trod_int he h1
  have f0 : [c0] = [Value.int k n0] := e0
  have f1 : [c1] = [Value.int k n1] := e1
  injection f0 with g0 _
  injection f1 with g1 _
  subst g0 g1
  exact ⟨(n0, n1), ⟨[.int k n0], [.int k n1], rfl, rfl, rfl⟩, w0, w1⟩
open Go.WideShapes in
theorem okWide_array {P : Program} {w : World} {r : Reach} {base : Nat} {t e : TypeId} {n : Nat} {v : Value} (ht : P.underlying t = some (.array n e)) (h : Value.okWide P w r base t v) : ∃ cs, v = .agg cs ∧ cs.size = P.cellsOf t := by
  simp only [Value.okWide, ht] at h
  obtain ⟨cs, h1, h2, _⟩ := h
  exact ⟨cs, h1, h2⟩
end Go.Proofs.Ythpgppamdejjhaa.O
