/- RecordIs, without the program: the body of any record, the record of any bytes, which number is newer and which is next, are the reference's. -/
import Derived.Test.YthpgppamdejjhaaGRecParts
import Derived.Test.YthpgppamdejjhaaOpenRecordIs
set_option linter.unusedVariables false
set_option linter.unusedSimpArgs false
namespace Go.Proofs.Ythpgppamdejjhaa.PureR
open Go Go.RowKit Go.Proofs.Ythpgppamdejjhaa.XQ Go.Proofs.YthpgppamdejjhaaW.PrintWords Go.Proofs.YthpgppamdejjhaaW.PrintLast
open Go.Proofs.Ythpgppamdejjhaa.G (crcSum bigTo fromBig cat)
theorem awake20 (k : Nat) (hk : 40 ≤ k) : postilionlaw20_awake.f k = some true := by
  have h : postilionlaw20_awake.f 40 = some true := by decide +kernel
  exact at_rounds (fun k => postilionlaw20_awake.mono k) hk h
theorem newer_same (a b : Int) : ∃ v, record_Newer.f a b = some v ∧ postilionref20_Newer.f a b = some v := by
  unfold record_Newer.f postilionref20_Newer.f
  by_cases h : (a - b) % 4294967296 > 0
  · rw [if_pos h, if_pos (by omega)]; exact ⟨_, rfl, rfl⟩
  · rw [if_neg h, if_neg (by omega)]; exact ⟨_, rfl, rfl⟩
theorem next_same (a : Int) : ∃ v, record_Next.f a = some v ∧ postilionref20_Next.f a = some v := ⟨_, rfl, rfl⟩
theorem crcSum_two (a b : ByteArray) : crcSum [a, b] = crcSum [a ++ b] := by
  unfold crcSum cat
  simp
theorem big_one (t : Int) (k : Nat) (hk : 9 ≤ k) : num_Big.f k t = some (strOfNums (four t)) := by
  unfold num_Big.f
  rw [pbigs [t] k (by simp; omega) (by simp)]
  simp
theorem body_j0 (k : Nat) (hk : 700 ≤ k) (c : Bool) (n : Int) (d : ByteArray) (hd : d.size ≤ 600) :
    ∃ v, record_Body.j0 k c n d = some v ∧ postilionref20_Body.j0 k c n d = some v := by
  obtain ⟨k, rfl⟩ : ∃ m, k = m + 1 := ⟨k - 1, by omega⟩
  simp only [record_Body.j0, postilionref20_Body.j0]
  cases c with
  | true => exact ⟨_, rfl, rfl⟩
  | false =>
    simp only [Bool.false_eq_true, ↓reduceIte]
    by_cases h : (d.size : Int) > 496
    · simp only [if_pos h]; exact ⟨_, rfl, rfl⟩
    · have hs : (strOfNums (([n, (d.size : Int)] : List Int).flatMap four)).size = 8 := by rw [ofNums_size, fours_length]; rfl
      have h4 : ∀ t : Int, (strOfNums (four t)).size = 4 := fun t => by rw [ofNums_size, four_length]
      have l2 : ([n, (d.size : Int)] : List Int).length = 2 := rfl
      simp only [if_neg h]
      rw [pbigs _ k (by omega) (by omega), rbigs _ k (by omega) (by omega)]
      simp only [Option.bind_some]
      have q1 : (strOfNums (([n, (d.size : Int)] : List Int).flatMap four)).size + d.size ≤ 9223372036854775807 := by rw [hs]; omega
      simp only [if_pos q1]
      generalize strOfNums (([n, (d.size : Int)] : List Int).flatMap four) = x at hs q1
      rw [psum _ (by intro s hm; simp at hm; rcases hm with rfl | rfl <;> omega), rsum _ (by rw [ByteArray.size_append]; omega) k (by rw [ByteArray.size_append]; omega), crcSum_two]
      simp only [Option.bind_some]
      rw [big_one _ k (by omega), rbig]
      simp only [Option.bind_some]
      generalize crcSum [x ++ d] = u
      have q2 : x.size + (strOfNums (four u)).size ≤ 9223372036854775807 := by rw [hs, h4]; omega
      have q3 : (x ++ strOfNums (four u)).size + d.size ≤ 9223372036854775807 := by rw [ByteArray.size_append, hs, h4]; omega
      simp only [if_pos q2, if_pos q3]
      exact ⟨_, rfl, rfl⟩
theorem body_same (k : Nat) (hk : 700 ≤ k) (n : Int) (d : ByteArray) (hd : d.size ≤ 600) : ∃ v, record_Body.f k n d = some v ∧ postilionref20_Body.f k n d = some v := by
  unfold record_Body.f postilionref20_Body.f
  split
  · exact body_j0 k hk _ n d hd
  · exact body_j0 k hk _ n d hd
theorem bt_part (s : ByteArray) (a b i : Nat) (h : a + i < b) (hb : b ≤ s.size) : bt (s.extract a b) (i : Int) = bt s ((a + i : Nat) : Int) := by
  rw [bt_nat _ i (by simp; omega), bt_nat s (a + i) (by omega)]
  congr 2
  simp
theorem big_part (s : ByteArray) (a b : Nat) (h : a + 4 ≤ b) (hb : b ≤ s.size) : bigTo (s.extract a b) 4 = ((bt s ((a : Nat) : Int) * 256 + bt s ((a + 1 : Nat) : Int)) * 256 + bt s ((a + 2 : Nat) : Int)) * 256 + bt s ((a + 3 : Nat) : Int) := by
  rw [bigTo4]
  have h0 := bt_part s a b 0 (by omega) hb
  have h1 := bt_part s a b 1 (by omega) hb
  have h2 := bt_part s a b 2 (by omega) hb
  have h3 := bt_part s a b 3 (by omega) hb
  simp only [Nat.add_zero] at h0
  rw [show ((0 : Nat) : Int) = 0 from rfl] at h0
  rw [show ((1 : Nat) : Int) = 1 from rfl] at h1
  rw [show ((2 : Nat) : Int) = 2 from rfl] at h2
  rw [show ((3 : Nat) : Int) = 3 from rfl] at h3
  rw [h0, h1, h2, h3]
theorem part_part (s : ByteArray) (a b c d : Nat) (h : a + d ≤ b) : (s.extract a b).extract c d = s.extract (a + c) (a + d) := by
  ext1
  simp
  rw [show min (a + d) b = a + d by omega]
theorem three (s : ByteArray) (h : 16 ≤ s.size) : bigs 3 ((s.extract 4 s.size).extract 0 12) = [bigTo (s.extract 4 s.size) 4, bigTo (s.extract 8 s.size) 4, bigTo (s.extract 12 s.size) 4] := by
  rw [part_part s 4 s.size 0 12 (by omega)]
  simp only [bigs]
  have z : (s.extract (4 + 0) (4 + 12)).size = 12 := by simp; omega
  rw [z, part_part s _ _ 4 12 (by omega)]
  have z2 : (s.extract (4 + 0 + 4) (4 + 0 + 12)).size = 8 := by simp; omega
  rw [z2, part_part s _ _ 4 8 (by omega)]
  rw [big_part s _ _ (by omega) (by omega), big_part s _ _ (by omega) (by omega), big_part s _ _ (by omega) (by omega), big_part s 4 s.size (by omega) (by omega), big_part s 8 s.size (by omega) (by omega), big_part s 12 s.size (by omega) (by omega)]
theorem fromBig_big (s : ByteArray) (h : 4 ≤ s.size) : fromBig s = (bigTo s 4, true) := by
  unfold fromBig
  rw [if_neg (by omega)]
theorem cut_mark (s : ByteArray) (h : 16 ≤ s.size) (hs : s.size ≤ 600) : strings_CutPrefix.f s ⟨#[80, 69, 78, 86]⟩ = if (s.extract 0 4).toList = ([80, 69, 78, 86] : List UInt8) then some (s.extract 4 s.size, true) else some (s, false) := by
  have z : (⟨#[80, 69, 78, 86]⟩ : ByteArray).size = 4 := rfl
  have y : (⟨#[80, 69, 78, 86]⟩ : ByteArray).toList = [80, 69, 78, 86] := by decide +kernel
  unfold strings_CutPrefix.f stringslite_CutPrefix.f stringslite_HasPrefix.f
  rw [z, y, if_pos (by omega), if_pos (by omega), if_pos (by omega), Option.bind_some]
  by_cases c : (s.extract 0 4).toList = ([80, 69, 78, 86] : List UInt8)
  · rw [if_pos c, if_pos (by show ((s.extract 0 4).toList == _) = true; rw [c]; rfl), if_pos (by omega), if_pos (by omega)]; rfl
  · rw [if_neg c, if_neg (by show ¬ ((s.extract 0 4).toList == _) = true; simpa using c)]; rfl
theorem read_same (k : Nat) (hk : 700 ≤ k) (s : ByteArray) (hs : s.size ≤ 600) : ∃ v, record_Read.f k s = some v ∧ postilionref20_Read.f k s = some v := by
  unfold record_Read.f postilionref20_Read.f
  by_cases h : (s.size : Int) < 16
  · simp only [if_pos h]; exact ⟨_, rfl, rfl⟩
  have f4 : (4 : Int) ≤ (s.size : Int) := by omega
  have f8 : (8 : Int) ≤ (s.size : Int) := by omega
  have f12 : (12 : Int) ≤ (s.size : Int) := by omega
  have l4 : (0 : Int) ≤ 4 := by omega
  have l8 : (0 : Int) ≤ 8 := by omega
  have l12 : (0 : Int) ≤ 12 := by omega
  have m12 : (4 : Int) ≤ 12 := by omega
  simp only [if_neg h, if_pos f4, if_pos f8, if_pos f12, if_pos l4, if_pos l8, if_pos l12, if_pos m12]
  rw [cut_mark s (by omega) hs]
  by_cases c : (s.extract 0 4).toList = ([80, 69, 78, 86] : List UInt8)
  case neg => simp only [if_neg c, Option.bind_some, Bool.false_eq_true, ↓reduceIte]; exact ⟨_, rfl, rfl⟩
  simp only [if_pos c, Option.bind_some, ↓reduceIte]
  have z : (s.extract 4 s.size).size = s.size - 4 := by simp
  have z8 : (s.extract 8 s.size).size = s.size - 8 := by simp
  have z12 : (s.extract 12 s.size).size = s.size - 12 := by simp
  have g8 : (8 : Int) ≤ ((s.extract 4 s.size).size : Int) := by rw [z]; omega
  have g12 : (12 : Int) ≤ ((s.extract 4 s.size).size : Int) := by rw [z]; omega
  simp only [if_pos g8, if_pos g12]
  rw [pfromBigs _ 3 (by simp; omega) (by omega) k (by omega), three s (by omega)]
  simp only [rfromBig, fromBig_big _ (show 4 ≤ (s.extract 4 s.size).size by omega), fromBig_big _ (show 4 ≤ (s.extract 8 s.size).size by omega), fromBig_big _ (show 4 ≤ (s.extract 12 s.size).size by omega)]
  rw [z, part_part s 4 s.size 12 (s.size - 4) (by omega), show 4 + (s.size - 4) = s.size by omega]
  have r1 : 0 ≤ bigTo (s.extract 8 s.size) 4 ∧ bigTo (s.extract 8 s.size) 4 < 4294967296 := by have := G.bigTo_range (s.extract 8 s.size) 4; exact ⟨this.1, this.2⟩
  generalize bigTo (s.extract 4 s.size) 4 = w0
  generalize bigTo (s.extract 8 s.size) 4 = w1 at r1 ⊢
  generalize bigTo (s.extract 12 s.size) 4 = w2
  have z16 : (s.extract (4 + 12) s.size).size = s.size - 16 := by simp
  have d0 : rd [w0, w1, w2] 0 = w0 := rfl
  have d1 : rd [w0, w1, w2] 1 = w1 := rfl
  have d2 : rd [w0, w1, w2] 2 = w2 := rfl
  have ew : wrap64 ((s.size : Int) - 16) = (s.size : Int) - 16 := by unfold wrap64; omega
  have ew1 : wrap64 (16 + w1) = 16 + w1 := by unfold wrap64; omega
  have L0 : (0 : Int) < (([w0, w1, w2] : List Int).length : Int) := by show (0 : Int) < 3; omega
  have L1 : (1 : Int) < (([w0, w1, w2] : List Int).length : Int) := by show (1 : Int) < 3; omega
  have L2 : (2 : Int) < (([w0, w1, w2] : List Int).length : Int) := by show (2 : Int) < 3; omega
  simp only [Option.bind_some, d0, d1, d2, ew, ew1, if_pos L0, if_pos L1, if_pos L2]
  by_cases h1 : w1 > 496
  · simp only [if_pos h1]; exact ⟨_, rfl, rfl⟩
  simp only [if_neg h1]
  by_cases h2 : w1 > (s.size : Int) - 16
  · have h2' : w1 > ((s.extract (4 + 12) s.size).size : Int) := by rw [z16]; omega
    simp only [if_pos h2, if_pos h2']; exact ⟨_, rfl, rfl⟩
  have h2' : ¬ w1 > ((s.extract (4 + 12) s.size).size : Int) := by rw [z16]; omega
  have q1 : 0 ≤ w1 := r1.1
  have q2 : w1 ≤ ((s.extract (4 + 12) s.size).size : Int) := by omega
  have q3 : 16 ≤ 16 + w1 := by omega
  have q4 : 16 + w1 ≤ (s.size : Int) := by omega
  simp only [if_neg h2, if_neg h2', if_pos q1, if_pos q2, if_pos q3, if_pos q4]
  have p8 : (s.extract 4 s.size).extract 0 8 = s.extract 4 12 := part_part s 4 s.size 0 8 (by omega)
  have pd : (s.extract (4 + 12) s.size).extract 0 w1.toNat = s.extract 16 (16 + w1).toNat := by
    rw [part_part s _ _ 0 _ (by omega)]
    congr 1
    omega
  have y8 : (s.extract 4 12).size = 8 := by simp; omega
  have yd : (s.extract 16 (16 + w1).toNat).size ≤ 600 := by simp; omega
  have q5 : (s.extract 4 12).size + (s.extract 16 (16 + w1).toNat).size ≤ 9223372036854775807 := by omega
  rw [p8, pd]
  simp only [if_pos q5]
  rw [psum _ (by intro x hm; simp at hm; rcases hm with rfl | rfl <;> omega), rsum _ (by rw [ByteArray.size_append]; omega) k (by rw [ByteArray.size_append]; omega), crcSum_two]
  simp only [Option.bind_some]
  by_cases h3 : crcSum [s.extract 4 12 ++ s.extract 16 (16 + w1).toNat] = w2
  · simp only [if_pos h3]; exact ⟨_, rfl, rfl⟩
  · simp only [if_neg h3]; exact ⟨_, rfl, rfl⟩
theorem main (k : Nat) (hk : 700 ≤ k) (n m0 m1 : Int) (d s : ByteArray) (c : Bool) (hc : c = false → d.size ≤ 600 ∧ s.size ≤ 600) : postilionlaw20_RecordIs.j0 (k + 1) s c n d m0 m1 = some true := by
  simp only [postilionlaw20_RecordIs.j0]
  cases c with
  | true => rw [if_pos rfl, awake20 k (by omega)]; rfl
  | false =>
    obtain ⟨hd, hs⟩ := hc rfl
    obtain ⟨v, p1, r1⟩ := body_same k hk n d hd
    obtain ⟨u, p2, r2⟩ := read_same k hk s hs
    obtain ⟨x, p3, r3⟩ := newer_same m0 m1
    obtain ⟨y, p4, r4⟩ := next_same m0
    rw [if_neg (by simp), p1, r1, p2, r2, p3, r3, p4, r4, awake20 k (by omega)]
    simp
end Go.Proofs.Ythpgppamdejjhaa.PureR
namespace Go.Proofs.Ythpgppamdejjhaa.Pure
open Go Go.RowKit Go.Proofs.Ythpgppamdejjhaa.XQ Go.Proofs.YthpgppamdejjhaaW.PrintWords Go.Proofs.YthpgppamdejjhaaW.PrintLast
theorem RecordIs : RecordIsOpen.Pure := by
  intro a0 a1 a2 h0 h1 h2
  refine ⟨800, ?_⟩
  unfold postilionlaw20_RecordIs.f
  by_cases h : (a0.f1.size : Int) > 600
  · rw [if_pos h]
    exact PureR.main 799 (by omega) _ _ _ _ _ true (fun h => by cases h)
  · rw [if_neg h]
    exact PureR.main 799 (by omega) _ _ _ _ _ _ (fun h => by have h := of_decide_eq_false h; omega)
end Go.Proofs.Ythpgppamdejjhaa.Pure
