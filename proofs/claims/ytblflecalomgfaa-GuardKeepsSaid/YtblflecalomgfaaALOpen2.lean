/- Rows of laws with slices of texts. -/
import Derived.Test.YtblflecalomgfaaALOpen
import Derived.Test.YtblflecalomgfaaALX
set_option linter.unusedSimpArgs false
set_option linter.unusedVariables false
namespace Go.Proofs.Ytblflecalomgfaa.AL
open Go Go.Proofs
def YStrs (zs : List AV) : Prop := ∃ (k : Nat) (ls : List (List UInt8)), zs = [slA k 1 (ls.map strV)] ∧ ls.length ≤ 9223372036854775807
/-- A list of values each of which is some element's. -/
theorem map_of {α : Type} {f : α → List AV} {Y : List AV → Prop} (hY : ∀ ys, Y ys → ∃ a, ys = f a) : ∀ (xs : List (List AV)), (∀ ys ∈ xs, Y ys) → ∃ l : List α, xs = l.map f
  | [], _ => ⟨[], rfl⟩
  | ys :: xs, h => by
    obtain ⟨a, rfl⟩ := hY ys (h ys (by simp))
    obtain ⟨l, rfl⟩ := map_of hY xs (fun zs hz => h zs (by simp [hz]))
    exact ⟨a :: l, rfl⟩
/-- Slices of what has cells of its own. -/
theorem opens_slA {P : Program} {t e : TypeId} {α : Type} {f : α → List AV} {g : α → AV} {Y : List AV → Prop} {sz : Nat} (pk : List AV → AV) (hu : P.underlying t = some (.slice e)) (hc : P.cellsOf e = sz) (h0 : 0 < sz) (hY : ∀ ys, Y ys → ∃ a, ys = f a) (hg : ∀ a, pk (f a) = g a) (hf : ∀ a, (g a).cells = f a) (h : Opens P e Y) :
    Opens P t (fun zs => ∃ (k : Nat) (l : List α), zs = [slA k sz (l.map g)] ∧ l.length ≤ 9223372036854775807) := by
  refine opens_mono (fun zs hz => ?_) (opens_slice pk hu hc h0 (fun ys hy => ?_) h)
  · rcases hz with rfl | rfl | ⟨xs, h1, h2, rfl, h3⟩
    · exact ⟨0, [], rfl, by simp⟩
    · exact ⟨1, [], rfl, by simp⟩
    · obtain ⟨l, rfl⟩ := map_of hY xs (fun ys hy => (h3 ys hy).1)
      refine ⟨2, l, ?_, by simpa using h2⟩
      rw [List.map_map, show pk ∘ f = g from funext hg]
      cases l <;> rfl
  · obtain ⟨a, rfl⟩ := hY ys hy
    rw [hg, hf]
theorem openStrs : Opens Try.prog 22 YStrs :=
  opens_slA (f := fun l : List UInt8 => [strV l]) (fun ys => ys.getD 0 .top) Try.underlying22 (by kernel_rfl) (by decide) (fun ys hy => by
    obtain ⟨s, _, rfl⟩ := hy
    exact ⟨s.data.toList, by rw [strV_is, B_of]⟩) (fun _ => rfl) (fun _ => rfl) (opens_str Try.underlying9)
end Go.Proofs.Ytblflecalomgfaa.AL
