/- Rows of laws with a slice of elements of which something is known. -/
import Derived.Test.YtblflecalomgfaaALOpen2
set_option linter.unusedSimpArgs false
set_option linter.unusedVariables false
namespace Go.Proofs.Ytblflecalomgfaa.AL
open Go Go.Proofs
theorem map_ofQ {α : Type} {f : α → List AV} {Q : α → Prop} {Y : List AV → Prop} (hY : ∀ ys, Y ys → ∃ a, Q a ∧ ys = f a) : ∀ (xs : List (List AV)), (∀ ys ∈ xs, Y ys) → ∃ l : List α, (∀ a ∈ l, Q a) ∧ xs = l.map f
  | [], _ => ⟨[], by simp, rfl⟩
  | ys :: xs, h => by
    obtain ⟨a, hq, rfl⟩ := hY ys (h ys (by simp))
    obtain ⟨l, hl, rfl⟩ := map_ofQ hY xs (fun zs hz => h zs (by simp [hz]))
    exact ⟨a :: l, by simpa using ⟨hq, hl⟩, rfl⟩
/-- Slices of what has cells of its own. -/
theorem opens_slQ {P : Program} {t e : TypeId} {α : Type} {f : α → List AV} {g : α → AV} {Q : α → Prop} {Y : List AV → Prop} {sz : Nat} (pk : List AV → AV) (hu : P.underlying t = some (.slice e)) (hc : P.cellsOf e = sz) (h0 : 0 < sz) (hY : ∀ ys, Y ys → ∃ a, Q a ∧ ys = f a) (hg : ∀ a, pk (f a) = g a) (hf : ∀ a, (g a).cells = f a) (h : Opens P e Y) :
    Opens P t (fun zs => ∃ (k : Nat) (l : List α), zs = [slA k sz (l.map g)] ∧ l.length ≤ 9223372036854775807 ∧ ∀ a ∈ l, Q a) := by
  refine opens_mono (fun zs hz => ?_) (opens_slice pk hu hc h0 (fun ys hy => ?_) h)
  · rcases hz with rfl | rfl | ⟨xs, h1, h2, rfl, h3⟩
    · exact ⟨0, [], rfl, by simp, by simp⟩
    · exact ⟨1, [], rfl, by simp, by simp⟩
    · obtain ⟨l, hl, rfl⟩ := map_ofQ hY xs (fun ys hy => (h3 ys hy).1)
      refine ⟨2, l, ?_, by simpa using h2, hl⟩
      rw [List.map_map, show pk ∘ f = g from funext hg]
      cases l <;> rfl
  · obtain ⟨a, hq, rfl⟩ := hY ys hy
    rw [hg, hf]
def i64ok (n : Int) : Prop := -9223372036854775808 ≤ n ∧ n < 9223372036854775808
theorem i64_of {n : Int} (h : (Lit.int .i64 n).wf = true) : i64ok n := by
  have m0 : IntKind.i64.min = -9223372036854775808 := by decide
  have m1 : IntKind.i64.max = 9223372036854775807 := by decide
  simp only [Lit.wf, Bool.and_eq_true, decide_eq_true_eq, m0, m1] at h
  exact ⟨h.1, by omega⟩
end Go.Proofs.Ytblflecalomgfaa.AL
