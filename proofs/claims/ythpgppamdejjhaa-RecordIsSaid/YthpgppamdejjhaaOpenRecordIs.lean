/- Written by a program (xrow.py) for this claim: how the arguments of the law RecordIs are opened, and its pure statement. -/
import Derived.Test.YthpgppamdejjhaaXQ6
import Derived.Test.YthpgppamdejjhaaGOpen
import Derived.Test.YthpgppamdejjhaaGOpenArr
import Derived.Test.YthpgppamdejjhaaXQK
import Derived.KernelRfl
set_option linter.unusedVariables false
namespace Go.Proofs.Ythpgppamdejjhaa.RecordIsOpen
open Go.RowKit Go.Proofs.Ythpgppamdejjhaa Go.Proofs.Ythpgppamdejjhaa.XQ Go.Proofs.YthpgppamdejjhaaW.PrintWords Go.Proofs.YthpgppamdejjhaaW.PrintLast
def wf46 (x : S46) : Prop := (fun n_ : Int => (Lit.int .i64 n_).wf = true) x.f0 ∧ (fun s_ : ByteArray => s_.size ≤ 9223372036854775807) x.f1
theorem opens46 : O.Opens Try.prog 46 k46 wf46 :=
  O.opens_iso (d := (Kd.pair (Kd.int .i64) Kd.string)) (wf := fun p : Int × ByteArray => (fun n_ : Int => (Lit.int .i64 n_).wf = true) p.1 ∧ (fun s_ : ByteArray => s_.size ≤ 9223372036854775807) p.2) (f := fun x : S46 => (x.f0, x.f1)) (g := fun p : Int × ByteArray => (⟨p.1, p.2⟩ : S46)) (fun _ => rfl)
    (O.opens_struct Try.underlying46 (by kernel_rfl) (fun n => (O.fields_cons (d := (Kd.int .i64)) (d2 := Kd.string) (wf := (fun n_ : Int => (Lit.int .i64 n_).wf = true)) (wf2 := (fun p => (fun s_ : ByteArray => s_.size ≤ 9223372036854775807) p)) rfl (by kernel_rfl) ((O.opens_int (P := Try.prog) Try.underlying3) n) (O.fields_one rfl (by kernel_rfl) ((O.opens_string (P := Try.prog) Try.underlying9) n)))))
def wf36 (x : S36) : Prop := (fun n_ : Int => (Lit.int .i64 n_).wf = true) x.f0 ∧ (fun n_ : Int => (Lit.int .i64 n_).wf = true) x.f1
theorem opens36 : O.Opens Try.prog 47 k36 wf36 :=
  O.opens_iso (d := (Kd.pair (Kd.int .i64) (Kd.int .i64))) (wf := fun p : Int × Int => (fun n_ : Int => (Lit.int .i64 n_).wf = true) p.1 ∧ (fun n_ : Int => (Lit.int .i64 n_).wf = true) p.2) (f := fun x : S36 => (x.f0, x.f1)) (g := fun p : Int × Int => (⟨p.1, p.2⟩ : S36)) (fun _ => rfl)
    (O.opens_array2 Try.underlying47 Try.underlying3 (by kernel_rfl) (by kernel_rfl))
def Pure : Prop := ∀ (a0 : S46) (a1 : ByteArray) (a2 : S36), wf46 a0 → a1.size ≤ 140737488351232 → wf36 a2 → ∃ k, postilionlaw20_RecordIs.f k a0.f0 a0.f1 a1 a2.f0 a2.f1 = some true
end Go.Proofs.Ythpgppamdejjhaa.RecordIsOpen
