/- What the printed functions of the layer num (the program's and the reference's) come to: numbers as bytes, and back. -/
import Derived.Test.YthpgppamdejjhaaX4
import Derived.Test.YthpgppamdejjhaaX7
import Derived.Test.YthpgppamdejjhaaX6
import Derived.Test.YthpgppamdejjhaaGNum
import Derived.Lib.Strings
set_option linter.unusedVariables false
set_option linter.unusedSimpArgs false
namespace Go.Proofs.Ythpgppamdejjhaa.Pure
open Go.RowKit Go.Proofs.Ythpgppamdejjhaa.X Go.Proofs.YthpgppamdejjhaaW.PrintWords Go.Proofs.YthpgppamdejjhaaW.PrintLast
open Go.Proofs.Ythpgppamdejjhaa.G (bigTo fromBig)
theorem bt_small (s : ByteArray) (i : Int) : 0 ≤ bt s i ∧ bt s i ≤ 255 := bt_range s i
theorem bigTo4 (s : ByteArray) : bigTo s 4 = ((bt s 0 * 256 + bt s 1) * 256 + bt s 2) * 256 + bt s 3 := by
  simp [bigTo]
theorem rfromBig (s : ByteArray) : postilionref01_FromBig.f s = some (fromBig s) := by
  unfold postilionref01_FromBig.f fromBig
  by_cases h : s.size < 4
  · rw [if_pos (by omega), if_pos h]
  · rw [if_neg (by omega), if_pos (by omega), if_pos (by omega), if_pos (by omega), if_pos (by omega), if_neg h, bigTo4]
    have h0 := bt_range s 0
    have h1 := bt_range s 1
    have h2 := bt_range s 2
    have h3 := bt_range s 3
    congr 2
    unfold wrap64
    omega
theorem pfromBig (s : ByteArray) : num_FromBig.f s = some (fromBig s) := rfl
/-- The numbers of bytes, word by word. -/
def bigs : Nat → ByteArray → List Int
  | 0, _ => []
  | n + 1, s => bigTo s 4 :: bigs n (s.extract 4 s.size)
theorem bigs_length (n : Nat) : ∀ s, (bigs n s).length = n := by
  induction n with
  | zero => intro s; rfl
  | succ n ih => intro s; simp [bigs, ih]
theorem size_from (s : ByteArray) (a : Nat) (h : a ≤ s.size) : (s.extract a s.size).size = s.size - a := by
  simp
theorem empty_iff (s : ByteArray) : s.toList = [] ↔ s.size = 0 := by
  rw [Lib.toList_data]
  rw [← List.length_eq_zero_iff]
  simp
theorem pfromBigs_loop (n : Nat) : ∀ (s : ByteArray) (acc : List Int) (k : Nat), s.size = 4 * n → n < k → acc.length + n < 17592186044416 → num_FromBigs.l0 k s acc = some (acc ++ bigs n s, true) := by
  induction n with
  | zero =>
    intro s acc k hs hk _
    obtain ⟨k, rfl⟩ : ∃ m, k = m + 1 := ⟨k - 1, by omega⟩
    simp only [num_FromBigs.l0]
    rw [if_pos ((empty_iff s).2 (by omega))]
    simp [bigs]
  | succ n ih =>
    intro s acc k hs hk hl
    obtain ⟨k, rfl⟩ : ∃ m, k = m + 1 := ⟨k - 1, by omega⟩
    simp only [num_FromBigs.l0]
    rw [if_neg (fun e => by have := (empty_iff s).1 e; omega), pfromBig, Option.bind_some, if_pos (by omega), if_pos (by omega), ih _ _ k (by rw [size_from s 4 (by omega)]; omega) (by omega) (by simp; omega)]
    unfold fromBig
    rw [if_neg (by omega)]
    simp [bigs]
theorem pfromBigs (s : ByteArray) (n : Nat) (hs : s.size = 4 * n) (hn : n < 17592186044416) (k : Nat) (hk : n < k) : num_FromBigs.f k s = some (bigs n s, true) := by
  unfold num_FromBigs.f
  rw [if_pos (by omega), pfromBigs_loop n s [] k hs hk (by simpa using hn)]
  simp
theorem extract_again (s : ByteArray) (i : Nat) (h : i ≤ s.size) : (s.extract i s.size).extract 4 (s.size - i) = s.extract (i + 4) s.size := by
  ext1
  simp
  rw [show min (i + (s.size - i)) s.size = s.size by omega]
theorem rfromBigs_loop (n : Nat) : ∀ (s : ByteArray) (i : Nat) (acc : List Int) (k : Nat), s.size ≤ 140737488351232 → i + 4 * n = s.size → n < k → acc.length + n < 17592186044416 → postilionref01_FromBigs.l0 k s acc (i : Int) = some (acc ++ bigs n (s.extract i s.size), true) := by
  induction n with
  | zero =>
    intro s i acc k hz hs hk _
    obtain ⟨k, rfl⟩ : ∃ m, k = m + 1 := ⟨k - 1, by omega⟩
    simp only [postilionref01_FromBigs.l0]
    rw [if_neg (by omega)]
    simp [bigs]
  | succ n ih =>
    intro s i acc k hz hs hk hl
    obtain ⟨k, rfl⟩ : ∃ m, k = m + 1 := ⟨k - 1, by omega⟩
    simp only [postilionref01_FromBigs.l0]
    have hw : wrap64 ((i : Int) + 4) = ((i + 4 : Nat) : Int) := by unfold wrap64; omega
    rw [if_pos (by omega), if_pos (by omega), if_pos (by omega), rfromBig, Option.bind_some, if_pos (by omega), hw, ih s (i + 4) _ k hz (by omega) (by omega) (by simp; omega)]
    unfold fromBig
    rw [if_neg (by simp; omega)]
    simp [bigs]
    rw [extract_again s i (by omega)]
theorem rfromBigs (s : ByteArray) (n : Nat) (hz : s.size ≤ 140737488351232) (hs : s.size = 4 * n) (hn : n < 17592186044416) (k : Nat) (hk : n < k) : postilionref01_FromBigs.f k s = some (bigs n s, true) := by
  unfold postilionref01_FromBigs.f
  have := rfromBigs_loop n s 0 [] k hz (by omega) hk (by simpa using hn)
  rw [show ((0 : Nat) : Int) = 0 from rfl] at this
  rw [if_pos (by omega), this]
  simp
end Go.Proofs.Ythpgppamdejjhaa.Pure
