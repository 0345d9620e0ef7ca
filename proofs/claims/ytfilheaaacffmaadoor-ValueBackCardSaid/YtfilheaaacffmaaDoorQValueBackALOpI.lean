/- Rows of laws with a slice of whole numbers. -/
import Derived.Test.YtfilheaaacffmaaDoorQValueBackALA4
set_option linter.unusedSimpArgs false
set_option linter.unusedVariables false
namespace Go.Proofs.YtfilheaaacffmaaDoor.AL
open Go Go.Proofs
def YIntL (zs : List AV) : Prop := ∃ (k : Nat) (l : List Int), zs = [slA k 1 (l.map (AV.int .i64))] ∧ l.length ≤ 9223372036854775807 ∧ ∀ a ∈ l, i64ok a
theorem openIntL : Opens Tryd.prog 22 YIntL :=
  opens_slQ (f := fun n : Int => [AV.int .i64 n]) (g := AV.int .i64) (Q := i64ok) (fun ys => ys.getD 0 .top) Tryd.underlying22 (by kernel_rfl) (by decide) (fun ys hy => by
    obtain ⟨n, hn, rfl⟩ := hy
    exact ⟨n, i64_of hn, rfl⟩) (fun _ => rfl) (fun _ => rfl) (opens_int Tryd.underlying3)
end Go.Proofs.YtfilheaaacffmaaDoor.AL

