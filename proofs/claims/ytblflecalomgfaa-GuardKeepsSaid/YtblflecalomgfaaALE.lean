/- Functions of the library without a body, told: the kit says what the machine's stand-ins for them answer. -/
import Derived.Test.YtblflecalomgfaaALX
import Derived.Lib.Bytealg
import Derived.Lib.MakeNoZero
set_option linter.unusedSimpArgs false
set_option linter.unusedVariables false
namespace Go.Proofs.Ytblflecalomgfaa.AL
open Go Go.Proofs
/-- A function that the machine stands in for, of which one value comes. -/
theorem acalls_ext {P : Program} {f : Nat} {args : List AV} {H : AHeap} {K : AV → AHeap → Prop}
    (h : ∀ g w vs, Sim g w H → Reps g w vs args → ∃ v w' g' y H', (callFunc f vs).run P w = .ok (.value v) w' ∧ Ext g w g' w' ∧ Sim g' w' H' ∧ Rep g' w' v y ∧ K y H') : ACalls P f args H K := by
  intro g w vs hS hR o act next Qc hn
  obtain ⟨v, w', g', y, H', h1, h2, h3, h4, h5⟩ := h g w vs hS hR
  rw [h1, Oper.upon_value]
  exact hn y H' g' w' v h5 h2 h3 h4
/-- A function that the machine stands in for, that leaves memory alone. -/
theorem acalls_extq {P : Program} {f : Nat} {args : List AV} {H : AHeap} {K : AV → AHeap → Prop} {y : AV} (hk : K y H)
    (h : ∀ g w vs, Sim g w H → Reps g w vs args → ∃ v, (callFunc f vs).run P w = .ok (.value v) w ∧ Rep g w v y) : ACalls P f args H K :=
  acalls_ext fun g w vs hS hR => by
    obtain ⟨v, h1, h2⟩ := h g w vs hS hR
    exact ⟨v, w, g, y, H, h1, Ext.refl _ _, hS, h2, hk⟩
theorem reps_two {g : Ghost} {w : World} {vs : Array Value} {x y : AV} (h : Reps g w vs [x, y]) : ∃ u v, vs = #[u, v] ∧ Rep g w u x ∧ Rep g w v y := by
  obtain ⟨l⟩ := vs
  match l, h with
  | [u, v], h => exact ⟨u, v, rfl, h.2 0 u x rfl rfl, h.2 1 v y rfl rfl⟩
  | [], h => have := h.1; simp at this
  | [_], h => have := h.1; simp at this
  | _ :: _ :: _ :: _, h => have := h.1; simp at this
theorem reps_one {g : Ghost} {w : World} {vs : Array Value} {x : AV} (h : Reps g w vs [x]) : ∃ u, vs = #[u] ∧ Rep g w u x := by
  obtain ⟨l⟩ := vs
  match l, h with
  | [u], h => exact ⟨u, rfl, h.2 0 u x rfl rfl⟩
  | [], h => have := h.1; simp at this
  | _ :: _ :: _, h => have := h.1; simp at this
end Go.Proofs.Ytblflecalomgfaa.AL
