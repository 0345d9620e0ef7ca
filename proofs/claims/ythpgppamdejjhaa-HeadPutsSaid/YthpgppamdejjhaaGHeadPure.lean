/- What may be a header: the program's and the reference's answers are the same. -/
import Derived.Test.YthpgppamdejjhaaX4
import Derived.Test.YthpgppamdejjhaaX6
set_option linter.unusedVariables false
set_option linter.unusedSimpArgs false
namespace Go.Proofs.Ythpgppamdejjhaa.Pure
open Go.RowKit Go.Proofs.Ythpgppamdejjhaa.X Go.Proofs.YthpgppamdejjhaaW.PrintWords Go.Proofs.YthpgppamdejjhaaW.PrintLast
theorem fits_is (a n t : Int) (ha : -9223372036854775808 ≤ a ∧ a ≤ 9223372036854775807) (ht : -9223372036854775808 ≤ t ∧ t ≤ 9223372036854775807) :
    head_fits.f a n t = some (decide (0 ≤ a ∧ 0 ≤ n ∧ a ≤ t ∧ n ≤ t - a)) := by
  unfold head_fits.f
  by_cases h1 : a ≥ 0
  · by_cases h2 : n ≥ 0
    · by_cases h3 : a ≤ t
      · have e : wrap64 (t - a) = t - a := by unfold wrap64; omega
        rw [if_pos h1, if_pos h2, if_pos h3, e]
        congr 1
        rw [decide_eq_decide]
        omega
      · rw [if_pos h1, if_pos h2, if_neg h3]; simp; omega
    · rw [if_pos h1, if_neg h2]; simp; omega
  · rw [if_neg h1]; simp; omega
/-- What is asked of a header. -/
def May (t s st r b x z : Int) : Prop :=
  40 ≤ t ∧ 40 ≤ s ∧ 40 ≤ st ∧ 40 ≤ r ∧ s ≤ t ∧ st ≤ t ∧ r ≤ t ∧ s % 4 = 0 ∧ r % 8 = 0 ∧ 0 ≤ z ∧ z ≤ t - s ∧ 0 ≤ x ∧ x ≤ t - st ∧ 0 ≤ b ∧ b ≤ 4294967295
instance (t s st r b x z : Int) : Decidable (May t s st r b x z) := by unfold May; infer_instance
def i64 (a : Int) : Prop := -9223372036854775808 ≤ a ∧ a ≤ 9223372036854775807
theorem pmay (t s st r b x z : Int) (ht : i64 t) (hs : i64 s) (hst : i64 st) (hr : i64 r) : head_may.f t s st r b x z = some (decide (May t s st r b x z)) := by
  unfold i64 at ht hs hst hr
  unfold head_may.f
  rw [fits_is s z t hs ht, fits_is st x t hst ht, fits_is r 0 t hr ht]
  simp only [Option.bind_some]
  have hm : (mn (mn (mn t s) st) r) ≥ 40 ↔ (40 ≤ t ∧ 40 ≤ s ∧ 40 ≤ st ∧ 40 ≤ r) := by
    unfold mn
    constructor <;> intro h <;> (repeat' split at h) <;> (repeat' split) <;> omega
  by_cases h0 : (40 ≤ t ∧ 40 ≤ s ∧ 40 ≤ st ∧ 40 ≤ r)
  · have h0' := hm.2 h0
    have e4 : Int.tmod s 4 = s % 4 := Int.tmod_eq_emod_of_nonneg (by omega)
    have e8 : Int.tmod r 8 = r % 8 := Int.tmod_eq_emod_of_nonneg (by omega)
    rw [e4, e8]
    simp only [if_pos h0']
    repeat' split
    all_goals (try simp only [decide_eq_true_eq] at *)
    all_goals (first | exact congrArg some (decide_eq_decide.2 (by unfold May; omega)) | exact congrArg some (decide_eq_false (by unfold May; omega)).symm)
  · have h0' : ¬ (mn (mn (mn t s) st) r) ≥ 40 := fun h => h0 (hm.1 h)
    simp only [if_neg h0']
    repeat' split
    all_goals (first | exact congrArg some (decide_eq_decide.2 (by unfold May; omega)) | exact congrArg some (decide_eq_false (by unfold May; omega)).symm)
theorem rmay_no {t s st r b x z : Int} (h : ¬ May t s st r b x z) : some false = some (decide (May t s st r b x z)) := by rw [decide_eq_false h]
theorem rmay (t s st r b x z : Int) (ht : i64 t) (hs : i64 s) (hst : i64 st) (hr : i64 r) : postilionref11_may.f t s st r b x z = some (decide (May t s st r b x z)) := by
  unfold i64 at ht hs hst hr
  unfold postilionref11_may.f
  by_cases a1 : t < 40
  · rw [if_pos a1]; exact rmay_no (by unfold May; omega)
  by_cases a2 : s < 40
  · rw [if_neg a1, if_pos a2]; exact rmay_no (by unfold May; omega)
  by_cases a3 : st < 40
  · rw [if_neg a1, if_neg a2, if_pos a3]; exact rmay_no (by unfold May; omega)
  by_cases a4 : r < 40
  · rw [if_neg a1, if_neg a2, if_neg a3, if_pos a4]; exact rmay_no (by unfold May; omega)
  by_cases a5 : s > t
  · rw [if_neg a1, if_neg a2, if_neg a3, if_neg a4, if_pos a5]; exact rmay_no (by unfold May; omega)
  by_cases a6 : st > t
  · rw [if_neg a1, if_neg a2, if_neg a3, if_neg a4, if_neg a5, if_pos a6]; exact rmay_no (by unfold May; omega)
  by_cases a7 : r > t
  · rw [if_neg a1, if_neg a2, if_neg a3, if_neg a4, if_neg a5, if_neg a6, if_pos a7]; exact rmay_no (by unfold May; omega)
  rw [if_neg a1, if_neg a2, if_neg a3, if_neg a4, if_neg a5, if_neg a6, if_neg a7]
  have e1 : wrap64 (t - s) = t - s := by unfold wrap64; omega
  have e2 : wrap64 (t - st) = t - st := by unfold wrap64; omega
  have e4 : Int.tmod s 4 = s % 4 := Int.tmod_eq_emod_of_nonneg (by omega)
  have e8 : Int.tmod r 8 = r % 8 := Int.tmod_eq_emod_of_nonneg (by omega)
  rw [e1, e2, e4, e8]
  by_cases b1 : s % 4 = 0
  case neg => rw [if_neg b1]; exact rmay_no (by unfold May; omega)
  by_cases b2 : r % 8 = 0
  case neg => rw [if_pos b1, if_neg b2]; exact rmay_no (by unfold May; omega)
  by_cases b3 : z ≥ 0
  case neg => rw [if_pos b1, if_pos b2, if_neg b3]; exact rmay_no (by unfold May; omega)
  by_cases b4 : z ≤ t - s
  case neg => rw [if_pos b1, if_pos b2, if_pos b3, if_neg b4]; exact rmay_no (by unfold May; omega)
  by_cases b5 : x ≥ 0
  case neg => rw [if_pos b1, if_pos b2, if_pos b3, if_pos b4, if_neg b5]; exact rmay_no (by unfold May; omega)
  by_cases b6 : x ≤ t - st
  case neg => rw [if_pos b1, if_pos b2, if_pos b3, if_pos b4, if_pos b5, if_neg b6]; exact rmay_no (by unfold May; omega)
  by_cases b7 : b ≥ 0
  case neg => rw [if_pos b1, if_pos b2, if_pos b3, if_pos b4, if_pos b5, if_pos b6, if_neg b7]; exact rmay_no (by unfold May; omega)
  rw [if_pos b1, if_pos b2, if_pos b3, if_pos b4, if_pos b5, if_pos b6, if_pos b7]
  refine congrArg some (decide_eq_decide.2 ?_)
  unfold May
  omega
end Go.Proofs.Ythpgppamdejjhaa.Pure
