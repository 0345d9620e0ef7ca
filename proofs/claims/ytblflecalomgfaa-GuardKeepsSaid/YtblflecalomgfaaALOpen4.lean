/- Rows of laws with a slice of acts. -/
import Derived.Test.YtblflecalomgfaaALOpen2
import Derived.Test.YtblflecalomgfaaALNor12
set_option linter.unusedSimpArgs false
set_option linter.unusedVariables false
namespace Go.Proofs.Ytblflecalomgfaa.AL
open Go Go.Proofs
def YI (ys : List AV) : Prop := ∃ n, (Lit.int .i64 n).wf = true ∧ ys = [.int .i64 n]
def YAct (zs : List AV) : Prop := ∃ a a2 : List AV, zs = a ++ a2 ∧ YI a ∧ ∃ b b2 : List AV, a2 = b ++ b2 ∧ YI b ∧ ∃ c c2 : List AV, b2 = c ++ c2 ∧ YI c ∧ ∃ s : ByteArray, s.size ≤ 9223372036854775807 ∧ c2 = [.str s]
theorem openAct : Opens Try.prog 61 YAct :=
  opens_struct (sz := 1 + (1 + (1 + 1))) Try.underlying61 (by kernel_rfl) (fun n => fields_cons rfl (by kernel_rfl) (opens_int Try.underlying3 n) (fields_cons rfl (by kernel_rfl) (opens_int Try.underlying3 n) (fields_cons rfl (by kernel_rfl) (opens_int Try.underlying3 n) (fields_one rfl (by kernel_rfl) (opens_str Try.underlying9 n)))))
def Act.V (a : Act) : AV := .agg a.v
def YActs (zs : List AV) : Prop := ∃ (k : Nat) (l : List Act), zs = [slA k 4 (l.map Act.V)] ∧ l.length ≤ 9223372036854775807
theorem openActs : Opens Try.prog 51 YActs :=
  opens_slA (f := Act.v) (g := Act.V) .agg Try.underlying51 (by kernel_rfl) (by decide) (fun ys hy => by
    obtain ⟨_, _, rfl, ⟨k, _, rfl⟩, _, _, rfl, ⟨i, _, rfl⟩, _, _, rfl, ⟨n, _, rfl⟩, s, _, rfl⟩ := hy
    exact ⟨⟨k, i, n, s.data.toList⟩, by simp [Act.v, B_of]⟩) (fun _ => rfl) (fun _ => rfl) openAct
end Go.Proofs.Ytblflecalomgfaa.AL
