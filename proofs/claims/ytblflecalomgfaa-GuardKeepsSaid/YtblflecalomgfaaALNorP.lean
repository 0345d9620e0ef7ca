/- Bytes of which some, from a place on, become others: each by what it was. -/
import Derived.Test.YtblflecalomgfaaALX
set_option linter.unusedSimpArgs false
set_option linter.unusedVariables false
namespace Go.Proofs.Ytblflecalomgfaa.AL
open Go Go.Proofs
/-- n bytes from a place on, each become f's. -/
def mapAt (at_ : Nat) (f : Nat → UInt8 → UInt8) (l : List UInt8) : Nat → List UInt8
  | 0 => l
  | n + 1 => (mapAt at_ f l n).set (at_ + n) (f n (l.getD (at_ + n) 0))
theorem mapAt_len (at_ : Nat) (f : Nat → UInt8 → UInt8) (l : List UInt8) : ∀ n, (mapAt at_ f l n).length = l.length
  | 0 => rfl
  | n + 1 => by rw [mapAt, List.length_set, mapAt_len at_ f l n]
theorem mapAt_get (at_ : Nat) (f : Nat → UInt8 → UInt8) (l : List UInt8) (j : Nat) : ∀ n, at_ + n ≤ l.length → (mapAt at_ f l n).getD j 0 = if at_ ≤ j ∧ j < at_ + n then f (j - at_) (l.getD j 0) else l.getD j 0
  | 0, _ => by rw [mapAt, if_neg (by omega)]
  | n + 1, h => by
    have ih := mapAt_get at_ f l j n (by omega)
    have hl := mapAt_len at_ f l n
    rw [mapAt, List.getD_eq_getElem?_getD]
    by_cases hj : at_ + n = j
    · subst hj
      rw [List.getElem?_set_self (by omega), if_pos (by omega), show at_ + n - at_ = n by omega]
      rfl
    · rw [List.getElem?_set_ne hj, ← List.getD_eq_getElem?_getD, ih]
      by_cases h2 : at_ ≤ j ∧ j < at_ + n
      · rw [if_pos h2, if_pos (by omega)]
      · rw [if_neg h2, if_neg (by omega)]
theorem mapAt_next (at_ : Nat) (f : Nat → UInt8 → UInt8) (l : List UInt8) (n : Nat) (h : at_ + n < l.length) : (mapAt at_ f l n)[at_ + n]? = some (l.getD (at_ + n) 0) := by
  have h1 := mapAt_get at_ f l (at_ + n) n (by omega)
  rw [if_neg (by omega)] at h1
  rw [byte_at (by rw [mapAt_len]; exact h), h1]
/-- The same bytes, one by one. -/
theorem ext_getD {l m : List UInt8} (h : l.length = m.length) (h2 : ∀ j, j < l.length → l.getD j 0 = m.getD j 0) : l = m := by
  apply List.ext_getElem? 
  intro j
  by_cases hj : j < l.length
  · rw [byte_at hj, byte_at (by omega), h2 j hj]
  · rw [List.getElem?_eq_none (by omega), List.getElem?_eq_none (by omega)]
theorem getD_take (l : List UInt8) (n j : Nat) : (l.take n).getD j 0 = if j < n then l.getD j 0 else 0 := by
  rw [List.getD_eq_getElem?_getD, List.getElem?_take]
  split
  · rw [← List.getD_eq_getElem?_getD]
  · rfl
theorem getD_drop (l : List UInt8) (n j : Nat) : (l.drop n).getD j 0 = l.getD (n + j) 0 := by
  rw [List.getD_eq_getElem?_getD, List.getElem?_drop, ← List.getD_eq_getElem?_getD]
theorem getD_app (l m : List UInt8) (j : Nat) : (l ++ m).getD j 0 = if j < l.length then l.getD j 0 else m.getD (j - l.length) 0 := by
  rw [List.getD_eq_getElem?_getD]
  split
  · rw [List.getElem?_append_left (by assumption), ← List.getD_eq_getElem?_getD]
  · rw [List.getElem?_append_right (by omega), ← List.getD_eq_getElem?_getD]
/-- Part of it, changed by itself and put back, is the same. -/
theorem mapAt_put (at_ n : Nat) (f : Nat → UInt8 → UInt8) (l : List UInt8) (h : at_ + n ≤ l.length) : l.take at_ ++ (mapAt 0 f ((l.take (at_ + n)).drop at_) n ++ l.drop (at_ + n)) = mapAt at_ f l n := by
  have hl : (mapAt 0 f ((l.take (at_ + n)).drop at_) n).length = n := by rw [mapAt_len]; simp; omega
  apply ext_getD
  · rw [mapAt_len, List.length_append, List.length_append, hl]
    simp
    omega
  · intro j hj
    rw [List.length_append, List.length_append, hl] at hj
    simp only [List.length_take, List.length_drop] at hj
    rw [mapAt_get _ _ _ _ _ h, getD_app]
    simp only [List.length_take]
    by_cases h1 : j < at_
    · rw [if_pos (by omega), getD_take, if_pos h1, if_neg (by omega)]
    · rw [if_neg (by omega), show j - min at_ l.length = j - at_ by omega, getD_app, hl]
      by_cases h2 : j - at_ < n
      · rw [if_pos h2, mapAt_get _ _ _ _ _ (by simp; omega), if_pos (by omega), if_pos (by omega), getD_drop, getD_take, if_pos (by omega), Nat.sub_zero, show at_ + (j - at_) = j by omega]
      · rw [if_neg h2, getD_drop, if_neg (by omega), show at_ + n + (j - at_ - n) = j by omega]
end Go.Proofs.Ytblflecalomgfaa.AL
