/- Rows of laws with a slice of acts of which the numbers are in range. -/
import Derived.Test.YtblflecalomgfaaALOpen5
import Derived.Test.YtblflecalomgfaaALOpen4
set_option linter.unusedSimpArgs false
set_option linter.unusedVariables false
namespace Go.Proofs.Ytblflecalomgfaa.AL
open Go Go.Proofs
structure ActOk (a : Act) : Prop where
  kind : i64ok a.kind
  at_ : i64ok a.at_
  n : i64ok a.n
  s : a.s.length ≤ 9223372036854775807
def YActQ (zs : List AV) : Prop := ∃ (k : Nat) (l : List Act), zs = [slA k 4 (l.map Act.V)] ∧ l.length ≤ 9223372036854775807 ∧ ∀ a ∈ l, ActOk a
theorem openActQ : Opens Try.prog 51 YActQ :=
  opens_slQ (f := Act.v) (g := Act.V) (Q := ActOk) .agg Try.underlying51 (by kernel_rfl) (by decide) (fun ys hy => by
    obtain ⟨_, _, rfl, ⟨k, hk, rfl⟩, _, _, rfl, ⟨i, hi, rfl⟩, _, _, rfl, ⟨n, hn, rfl⟩, s, hs, rfl⟩ := hy
    exact ⟨⟨k, i, n, s.data.toList⟩, ⟨i64_of hk, i64_of hi, i64_of hn, hs⟩, by simp [Act.v, B_of]⟩) (fun _ => rfl) (fun _ => rfl) openAct
end Go.Proofs.Ytblflecalomgfaa.AL
