/- HeadPuts, without the program: what the program writes of a header, and what it takes of a text, is the reference's. -/
import Derived.Test.YthpgppamdejjhaaOpenHeadPuts
import Derived.Test.YthpgppamdejjhaaGHeadPure
import Derived.OpenShut
set_option linter.unusedVariables false
set_option linter.unusedSimpArgs false
namespace Go.Proofs.Ythpgppamdejjhaa.Pure
open Go Go.RowKit Go.Proofs.Ythpgppamdejjhaa.X Go.Proofs.YthpgppamdejjhaaW.PrintWords Go.Proofs.YthpgppamdejjhaaW.PrintLast
def four (x : Int) : List Int := [(x / 16777216) % 256, (x / 65536) % 256, (x / 256) % 256, x % 256]
theorem four_length (x : Int) : (four x).length = 4 := rfl
theorem fours_length (l : List Int) : (l.flatMap four).length = 4 * l.length := by
  induction l with
  | nil => rfl
  | cons x l ih => simp [List.flatMap_cons, four_length, ih]; omega
theorem ofNums_append (a b : List Int) : strOfNums (a ++ b) = strOfNums a ++ strOfNums b := by
  unfold strOfNums
  ext1
  simp
theorem ofNums_size (a : List Int) : (strOfNums a).size = a.length := by
  unfold strOfNums
  simp [ByteArray.size]
theorem rbig (x : Int) : postilionref01_Big.f x = some (strOfNums (four x)) := by
  unfold postilionref01_Big.f four
  rw [show x % 4294967296 / 16777216 = x / 16777216 % 256 by omega, show x % 4294967296 / 65536 % 256 = x / 65536 % 256 by omega, show x % 4294967296 / 256 % 256 = x / 256 % 256 by omega]
theorem rd_at (l : List Int) (i : Nat) (h : i < l.length) : rd l (i : Int) = l[i] := by
  unfold rd
  simp [List.getD_eq_getElem?_getD, h]
theorem pbigs_loop (n : Nat) : ∀ (l acc : List Int) (i k : Nat), i + n = l.length → n < k → l.length < 1000000 → acc.length + 4 * n < 1000000000 → num_Bigs.l0 k acc l (l.length : Int) (i : Int) = some (strOfNums (acc ++ (l.drop i).flatMap four)) := by
  induction n with
  | zero =>
    intro l acc i k hi hk hl _
    obtain ⟨k, rfl⟩ : ∃ m, k = m + 1 := ⟨k - 1, by omega⟩
    simp only [num_Bigs.l0]
    rw [if_neg (by omega), List.drop_of_length_le (by omega)]
    simp
  | succ n ih =>
    intro l acc i k hi hk hl ha
    obtain ⟨k, rfl⟩ : ∃ m, k = m + 1 := ⟨k - 1, by omega⟩
    simp only [num_Bigs.l0, Option.bind_some]
    have hw : wrap64 ((i : Int) + 1) = ((i + 1 : Nat) : Int) := by unfold wrap64; omega
    rw [if_pos (by omega), if_pos (by omega), if_pos (by omega), if_pos (by simp; omega), hw, ih l _ (i + 1) k (by omega) (by omega) hl (by simp; omega), rd_at l i (by omega)]
    rw [List.drop_eq_getElem_cons (show i < l.length by omega), List.flatMap_cons]
    simp [four]
theorem pbigs (l : List Int) (k : Nat) (hk : l.length < k) (hl : l.length < 1000000) : num_Bigs.f k l = some (strOfNums (l.flatMap four)) := by
  unfold num_Bigs.f
  have := pbigs_loop l.length l [] 0 k (by omega) hk hl (by simp; omega)
  simpa using this
theorem rbigs_loop (n : Nat) : ∀ (l : List Int) (s : ByteArray) (i k : Nat), i + n = l.length → n < k → l.length < 1000000 → s.size + 4 * n < 1000000000 → postilionref01_Bigs.l0 k l s (i : Int) = some (s ++ strOfNums ((l.drop i).flatMap four)) := by
  induction n with
  | zero =>
    intro l s i k hi hk hl _
    obtain ⟨k, rfl⟩ : ∃ m, k = m + 1 := ⟨k - 1, by omega⟩
    simp only [postilionref01_Bigs.l0]
    rw [if_neg (by omega), List.drop_of_length_le (by omega)]
    simp only [List.flatMap_nil]
    congr 1
    ext1
    simp [strOfNums]
  | succ n ih =>
    intro l s i k hi hk hl ha
    obtain ⟨k, rfl⟩ : ∃ m, k = m + 1 := ⟨k - 1, by omega⟩
    simp only [postilionref01_Bigs.l0]
    have hw : wrap64 ((i : Int) + 1) = ((i + 1 : Nat) : Int) := by unfold wrap64; omega
    rw [if_pos (by omega), if_pos (by omega), rbig, Option.bind_some, if_pos (by rw [ofNums_size, four_length]; omega), hw, ih l _ (i + 1) k (by omega) (by omega) hl (by rw [ByteArray.size_append, ofNums_size, four_length]; omega), rd_at l i (by omega)]
    rw [List.drop_eq_getElem_cons (show i < l.length by omega), List.flatMap_cons, ofNums_append, ByteArray.append_assoc]
theorem rbigs (l : List Int) (k : Nat) (hk : l.length < k) (hl : l.length < 1000000) : postilionref01_Bigs.f k l = some (strOfNums (l.flatMap four)) := by
  unfold postilionref01_Bigs.f
  have := rbigs_loop l.length l ⟨#[]⟩ 0 k (by omega) hk hl (by simp [ByteArray.size]; omega)
  rw [show ((0 : Nat) : Int) = 0 from rfl] at this
  rw [this, List.drop_zero]
  congr 1
theorem put_both (t s st r b x z : Int) (ht : i64 t) (hs : i64 s) (hst : i64 st) (hr : i64 r) (k : Nat) (hk : 20 ≤ k) : ∃ v, head_Put.f k t s st r b x z = some v ∧ postilionref11_Put.f k t s st r b x z = some v := by
  unfold head_Put.f postilionref11_Put.f
  rw [pmay t s st r b x z ht hs hst hr, rmay t s st r b x z ht hs hst hr, Option.bind_some, Option.bind_some]
  rw [pbigs _ k (by simp; omega) (by simp), rbigs _ k (by simp; omega) (by simp)]
  simp only [Option.bind_some]
  repeat' split
  all_goals exact ⟨_, rfl, rfl⟩
theorem part_both (s : ByteArray) (a n : Int) (hs : s.size ≤ 140737488351232) (ha : i64 a) (hn : i64 n) : ∃ v, head_Part.f s a n = some v ∧ postilionref11_Part.f s a n = some v := by
  unfold i64 at ha hn
  unfold head_Part.f postilionref11_Part.f
  rw [fits_is a n _ ha (by omega), Option.bind_some]
  simp only [decide_eq_true_eq]
  by_cases h1 : a < 0
  · rw [if_pos h1, if_neg (by omega)]; exact ⟨_, rfl, rfl⟩
  by_cases h2 : n < 0
  · rw [if_neg h1, if_pos h2, if_neg (by omega)]; exact ⟨_, rfl, rfl⟩
  by_cases h3 : a > (s.size : Int)
  · rw [if_neg h1, if_neg h2, if_pos h3, if_neg (by omega)]; exact ⟨_, rfl, rfl⟩
  have e : wrap64 ((s.size : Int) - a) = (s.size : Int) - a := by unfold wrap64; omega
  rw [if_neg h1, if_neg h2, if_neg h3, e]
  by_cases h4 : n > (s.size : Int) - a
  · rw [if_pos h4, if_neg (by omega)]; exact ⟨_, rfl, rfl⟩
  have e2 : wrap64 (a + n) = a + n := by unfold wrap64; omega
  rw [if_neg h4, if_pos (by omega), e2, if_pos (by omega), if_pos (by omega), if_pos (by omega)]
  exact ⟨_, rfl, rfl⟩
theorem awake11' (k : Nat) (hk : 40 ≤ k) : postilionlaw11_awake.f k = some true := by
  have h : postilionlaw11_awake.f 40 = some true := by decide +kernel
  exact at_rounds (fun k => postilionlaw11_awake.mono k) hk h
theorem bounds_i64 {n : Int} (h : (Lit.int .i64 n).wf = true) : i64 n := by
  simp [Lit.wf, IntKind.min, IntKind.max, IntKind.signed, IntKind.bits] at h
  unfold i64
  omega
theorem HeadPuts : HeadPutsOpen.Pure := by
  intro a0 a1 a2 h0 h1 h2
  refine ⟨60, ?_⟩
  obtain ⟨h00, h01, h02, h03, h04, h05, h06⟩ := h0
  obtain ⟨h20, h21⟩ := h2
  unfold postilionlaw11_HeadPuts.f
  split
  · rw [awake11' 60 (by omega)]; rfl
  · obtain ⟨v, p1, r1⟩ := put_both a0.f0 a0.f1 a0.f2 a0.f3 a0.f4 a0.f5 a0.f6 (bounds_i64 h00) (bounds_i64 h01) (bounds_i64 h02) (bounds_i64 h03) 60 (by omega)
    obtain ⟨u, p2, r2⟩ := part_both a1 a2.f0 a2.f1 h1 (bounds_i64 h20) (bounds_i64 h21)
    rw [p1, r1, p2, r2]
    simp only [Option.bind_some, if_true]
    rw [awake11' 60 (by omega)]; rfl
end Go.Proofs.Ythpgppamdejjhaa.Pure
