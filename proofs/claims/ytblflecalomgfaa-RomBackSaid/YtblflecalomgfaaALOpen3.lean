/- Rows of laws with arrays of whole numbers. -/
import Derived.Test.YtblflecalomgfaaALOpen
import Derived.Test.YtblflecalomgfaaALX
import Derived.OpenShut
set_option linter.unusedSimpArgs false
set_option linter.unusedVariables false
namespace Go.Proofs.Ytblflecalomgfaa.AL
open Go Go.Proofs Go.RowKit
theorem opens_arr {P : Program} {t e : TypeId} {k : IntKind} {n : Nat} (hu : P.underlying t = some (.array n e)) (he : P.underlying e = some (.int k)) (hce : P.cellsOf e = 1) (hct : P.cellsOf t = n) :
    Opens P t (fun zs => ∃ ns : List Int, zs = ns.map (AV.int k) ∧ ns.length = n ∧ ∀ m ∈ ns, (Lit.int k m).wf = true) := by
  intro fuel H enc W cs x h
  obtain ⟨xs, m, rfl, rfl, hl, hx, hi⟩ := DataW.trod_array hu h
  rw [hct] at hl
  have key : ∀ i (hi' : i < cs.length), ∃ z : Int, cs[i] = .int k z ∧ (Lit.int k z).wf = true := by
    intro i hi'
    have h0 := hi i (by omega)
    rw [hce, Nat.mul_one, List.getElem?_eq_getElem (by omega), List.drop_eq_getElem_cons hi', List.take_succ_cons, List.take_zero] at h0
    obtain ⟨n0, e0, _, w0⟩ := DataW.trod_int he h0
    have f0 : [cs[i]] = [Value.int k n0] := e0
    injection f0 with g0 _
    exact ⟨n0, g0, w0⟩
  have all : ∀ (l : List Value), (∀ v ∈ l, ∃ z : Int, v = .int k z ∧ (Lit.int k z).wf = true) → ∃ ns : List Int, l = ns.map (Value.int k) ∧ ∀ m ∈ ns, (Lit.int k m).wf = true := by
    intro l
    induction l with
    | nil => exact fun _ => ⟨[], rfl, by simp⟩
    | cons v l ih =>
      intro hv
      obtain ⟨z, rfl, hz⟩ := hv v (by simp)
      obtain ⟨ns, rfl, hns⟩ := ih (fun u hu => hv u (by simp [hu]))
      exact ⟨z :: ns, rfl, by simpa using ⟨hz, hns⟩⟩
  obtain ⟨ns, rfl, hns⟩ := all cs (fun v hv => by
    obtain ⟨i, hi', rfl⟩ := List.getElem_of_mem hv
    exact key i hi')
  refine ⟨ns.map (AV.int k), ⟨by simp, fun i v y hv hy => ?_⟩, ns, rfl, by simpa using hl, hns⟩
  rw [List.getElem?_map] at hv hy
  obtain ⟨a, ha, rfl⟩ := Option.map_eq_some_iff.1 hv
  obtain ⟨b, hb, rfl⟩ := Option.map_eq_some_iff.1 hy
  rw [ha] at hb
  obtain rfl := Option.some.inj hb
  exact .int _ _
open Go.WideShapes in
theorem okWide_array {P : Program} {w : World} {r : Reach} {base : Nat} {t e : TypeId} {n : Nat} {v : Value} (ht : P.underlying t = some (.array n e)) (h : Value.okWide P w r base t v) : ∃ cs, v = .agg cs ∧ cs.size = P.cellsOf t := by
  simp only [Value.okWide, ht] at h
  obtain ⟨cs, h1, h2, _⟩ := h
  exact ⟨cs, h1, h2⟩
end Go.Proofs.Ytblflecalomgfaa.AL
