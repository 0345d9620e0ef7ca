/- RecordNewer, without the program: of numbers fewer than 2^31 apart the one that comes later is newer. -/
import Derived.Test.YthpgppamdejjhaaXN4
import Derived.OpenShut
set_option linter.unusedVariables false
set_option linter.unusedSimpArgs false
namespace Go.Proofs.Ythpgppamdejjhaa.Pure
open Go Go.RowKit Go.Proofs.Ythpgppamdejjhaa.XN Go.Proofs.YthpgppamdejjhaaW.PrintWords Go.Proofs.YthpgppamdejjhaaW.PrintLast
theorem awake20 (k : Nat) (hk : 40 ≤ k) : postilionlaw20_awake.f k = some true := by
  have h : postilionlaw20_awake.f 40 = some true := by decide +kernel
  exact at_rounds (fun k => postilionlaw20_awake.mono k) hk h
theorem newer (a b : Int) : record_Newer.f a b = some (decide (0 < (a - b) % 4294967296 ∧ (a - b) % 4294967296 < 2147483648)) := by
  unfold record_Newer.f
  split
  · rename_i h; congr 1; rw [decide_eq_decide]; omega
  · rename_i h; simp; omega
theorem next (a : Int) : record_Next.f a = some ((a + 1) % 4294967296) := by
  unfold record_Next.f
  congr 1
  omega
theorem newer_j0 (k : Nat) (hk : 50 ≤ k) (a b : Int) (ha : 0 ≤ a ∧ a ≤ 4294967295) (hb : 0 ≤ b ∧ b ≤ 4294967295) (c : Bool)
    (hc : c = true → 0 < (b - a) % 4294967296 ∧ (b - a) % 4294967296 < 2147483648) : postilionlaw20_RecordNewer.j0 k a b c = some true := by
  obtain ⟨k, rfl⟩ : ∃ m, k = m + 1 := ⟨k - 1, by omega⟩
  have ea : wrap64 a = a := by unfold wrap64; omega
  have eb : wrap64 b = b := by unfold wrap64; omega
  have e0 : record_Newer.f a a = some false := by rw [newer]; simp
  have e1 : record_Newer.f ((a + 1) % 4294967296) a = some true := by rw [newer, decide_eq_true (by omega)]
  simp only [postilionlaw20_RecordNewer.j0]
  rw [ea, eb, e0, next, Option.bind_some, Option.bind_some, e1, Option.bind_some, awake20 k (by omega), Option.bind_some]
  cases c
  · simp
  · have h := hc rfl
    have e2 : record_Newer.f b a = some true := by rw [newer, decide_eq_true h]
    have e3 : record_Newer.f a b = some false := by rw [newer, decide_eq_false (by omega)]
    rw [e2, e3]
    simp
theorem RecordNewer : postilionlaw20_RecordNewer.Pure := by
  intro a m h0 h1
  have b0 := bounds_u32 h0
  have b1 := bounds_u32 h1
  refine ⟨60, ?_⟩
  unfold postilionlaw20_RecordNewer.f
  split
  · refine newer_j0 60 (by omega) a _ b0 (by omega) _ (fun h => ?_)
    have h := of_decide_eq_true h
    omega
  · exact newer_j0 60 (by omega) a _ b0 (by omega) _ (fun h => by cases h)
end Go.Proofs.Ythpgppamdejjhaa.Pure
