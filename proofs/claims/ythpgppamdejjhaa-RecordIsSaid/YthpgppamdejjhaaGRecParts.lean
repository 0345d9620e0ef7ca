/- Written by recparts.py: what the printed functions that a record is put and read by come to. -/
import Derived.Test.YthpgppamdejjhaaXQ5
import Derived.Test.YthpgppamdejjhaaGCrc
import Derived.Test.YthpgppamdejjhaaGNum
import Derived.OpenShut
import Derived.Lib.Strings
set_option linter.unusedVariables false
set_option linter.unusedSimpArgs false
namespace Go.Proofs.Ythpgppamdejjhaa.PureR
open Go Go.RowKit Go.Proofs.Ythpgppamdejjhaa.XQ Go.Proofs.YthpgppamdejjhaaW.PrintWords Go.Proofs.YthpgppamdejjhaaW.PrintLast
open Go.Proofs.Ythpgppamdejjhaa.G (cstep ceight crun call cbyte xr cat crcSum crcMore bigTo fromBig)
theorem rstep (v : BitVec 32) : postilionref02_step.f (v.toNat : Int) = some ((cstep v).toNat : Int) := by
  have hv := v.isLt
  unfold postilionref02_step.f
  rw [Int.tmod_eq_emod_of_nonneg (by omega), Int.tdiv_eq_ediv_of_nonneg (by omega)]
  have h2 : ((v.toNat : Int) / (2 : Int)) % (4294967296 : Int) = (((v >>> 1).toNat : Nat) : Int) := by
    rw [BitVec.toNat_ushiftRight, Nat.shiftRight_eq_div_pow]; omega
  rw [h2]
  unfold cstep
  rw [G.lsb_bv]
  by_cases h : v.toNat % 2 = 1
  · rw [if_pos (by omega), show (3988292384 : Int) = ((G.poly : BitVec 32).toNat : Int) from by decide, G.xor_bv]
    simp [h]
  · rw [if_neg (by omega)]
    simp [h]
theorem reight (v : BitVec 32) (m : Nat) : postilionref02_eight.f (m + 9) (v.toNat : Int) = some ((ceight v).toNat : Int) := by
  unfold postilionref02_eight.f
  simp [postilionref02_eight.l0, rstep, wrap64, ceight]
theorem bt_nat (s : ByteArray) (i : Nat) (h : i < s.size) : bt s (i : Int) = (((s.data.toList[i]'(by simpa using h)).toNat : Nat) : Int) := by
  unfold bt
  rw [dif_pos (by simpa using h)]
  rfl
theorem drop_at (s : ByteArray) (i : Nat) (h : i < s.size) : s.data.toList.drop i = (s.data.toList[i]'(by simpa using h)) :: s.data.toList.drop (i + 1) := by
  rw [List.drop_eq_getElem_cons (by simpa using h)]
theorem wrap_next {i n : Nat} (h : i < n) (hn : n ≤ 9223372036854775807) : wrap64 ((i : Int) + 1) = ((i + 1 : Nat) : Int) := by
  unfold wrap64
  omega
theorem rmore_loop (s : ByteArray) (hs : s.size ≤ 9223372036854775807) (d : Nat) : ∀ (i : Nat) (c : BitVec 32) (k : Nat), i + d = s.size → d + 10 ≤ k →
    postilionref02_More.l0 k s (c.toNat : Int) (i : Int) = some ((xr (crun c (s.data.toList.drop i)) call).toNat : Int) := by
  induction d with
  | zero =>
    intro i c k hi hk
    obtain ⟨k, rfl⟩ : ∃ m, k = m + 1 := ⟨k - 1, by omega⟩
    have e : s.data.toList.drop i = [] := by
      apply List.drop_eq_nil_of_le
      simp; omega
    simp only [postilionref02_More.l0]
    rw [if_neg (by omega), e, G.crun_nil]
    rw [show (4294967295 : Int) = ((call : BitVec 32).toNat : Int) from by decide, G.xr_bv, G.u32_small]
  | succ d ih =>
    intro i c k hi hk
    obtain ⟨k, rfl⟩ : ∃ m, k = m + 1 := ⟨k - 1, by omega⟩
    have hlt : i < s.size := by omega
    obtain ⟨m, hm⟩ : ∃ m, k = m + 9 := ⟨k - 9, by omega⟩
    simp only [postilionref02_More.l0]
    rw [if_pos (by omega), if_pos (by omega), bt_nat s i hlt, G.byte_num, G.xr_bv]
    conv => lhs; rw [hm, reight, Option.bind_some]
    rw [wrap_next hlt hs, ← hm, ih (i + 1) _ k (by omega) (by omega), drop_at s i hlt, G.crun_cons]
    rfl
theorem rmore (a : Int) (s : ByteArray) (hs : s.size ≤ 9223372036854775807) (k : Nat) (hk : s.size + 10 ≤ k) : postilionref02_More.f k a s = some (crcMore a s) := by
  unfold postilionref02_More.f
  rw [G.ofInt_num, show (4294967295 : Int) = ((call : BitVec 32).toNat : Int) from by decide, G.xr_bv]
  have := rmore_loop s hs s.size 0 (xr (BitVec.ofInt 32 a) call) k (by omega) hk
  rw [show ((0 : Nat) : Int) = 0 from rfl] at this
  rw [this]
  rfl
theorem crcSum_one (s : ByteArray) : crcSum [s] = crcMore 0 s := by
  unfold crcSum crcMore
  have : xr (BitVec.ofInt 32 0) call = call := by decide
  rw [this]
  simp [cat]
theorem rsum (s : ByteArray) (hs : s.size ≤ 9223372036854775807) (k : Nat) (hk : s.size + 10 ≤ k) : postilionref02_Sum.f k s = some (crcSum [s]) := by
  unfold postilionref02_Sum.f
  rw [rmore 0 s hs k hk, crcSum_one]
  rfl
theorem psum (l : List ByteArray) (h : ∀ s ∈ l, s.size ≤ 9223372036854775807) : crc_Sum.f l = some (crcSum l) := by
  unfold crc_Sum.f
  rw [if_pos h]
theorem bt_small (s : ByteArray) (i : Int) : 0 ≤ bt s i ∧ bt s i ≤ 255 := bt_range s i
theorem bigTo4 (s : ByteArray) : bigTo s 4 = ((bt s 0 * 256 + bt s 1) * 256 + bt s 2) * 256 + bt s 3 := by
  simp [bigTo]
theorem rfromBig (s : ByteArray) : postilionref01_FromBig.f s = some (fromBig s) := by
  unfold postilionref01_FromBig.f fromBig
  by_cases h : s.size < 4
  · rw [if_pos (by omega), if_pos h]
  · rw [if_neg (by omega), if_pos (by omega), if_pos (by omega), if_pos (by omega), if_pos (by omega), if_neg h, bigTo4]
    have h0 := bt_range s 0
    have h1 := bt_range s 1
    have h2 := bt_range s 2
    have h3 := bt_range s 3
    congr 2
    unfold wrap64
    omega
theorem pfromBig (s : ByteArray) : num_FromBig.f s = some (fromBig s) := rfl
def bigs : Nat → ByteArray → List Int
  | 0, _ => []
  | n + 1, s => bigTo s 4 :: bigs n (s.extract 4 s.size)
theorem bigs_length (n : Nat) : ∀ s, (bigs n s).length = n := by
  induction n with
  | zero => intro s; rfl
  | succ n ih => intro s; simp [bigs, ih]
theorem size_from (s : ByteArray) (a : Nat) (h : a ≤ s.size) : (s.extract a s.size).size = s.size - a := by
  simp
theorem empty_iff (s : ByteArray) : s.toList = [] ↔ s.size = 0 := by
  rw [Lib.toList_data]
  rw [← List.length_eq_zero_iff]
  simp
theorem pfromBigs_loop (n : Nat) : ∀ (s : ByteArray) (acc : List Int) (k : Nat), s.size = 4 * n → n < k → acc.length + n < 17592186044416 → num_FromBigs.l0 k s acc = some (acc ++ bigs n s, true) := by
  induction n with
  | zero =>
    intro s acc k hs hk _
    obtain ⟨k, rfl⟩ : ∃ m, k = m + 1 := ⟨k - 1, by omega⟩
    simp only [num_FromBigs.l0]
    rw [if_pos ((empty_iff s).2 (by omega))]
    simp [bigs]
  | succ n ih =>
    intro s acc k hs hk hl
    obtain ⟨k, rfl⟩ : ∃ m, k = m + 1 := ⟨k - 1, by omega⟩
    simp only [num_FromBigs.l0]
    rw [if_neg (fun e => by have := (empty_iff s).1 e; omega), pfromBig, Option.bind_some, if_pos (by omega), if_pos (by omega), ih _ _ k (by rw [size_from s 4 (by omega)]; omega) (by omega) (by simp; omega)]
    unfold fromBig
    rw [if_neg (by omega)]
    simp [bigs]
theorem pfromBigs (s : ByteArray) (n : Nat) (hs : s.size = 4 * n) (hn : n < 17592186044416) (k : Nat) (hk : n < k) : num_FromBigs.f k s = some (bigs n s, true) := by
  unfold num_FromBigs.f
  rw [if_pos (by omega), pfromBigs_loop n s [] k hs hk (by simpa using hn)]
  simp
def four (x : Int) : List Int := [(x / 16777216) % 256, (x / 65536) % 256, (x / 256) % 256, x % 256]
theorem four_length (x : Int) : (four x).length = 4 := rfl
theorem fours_length (l : List Int) : (l.flatMap four).length = 4 * l.length := by
  induction l with
  | nil => rfl
  | cons x l ih => simp [List.flatMap_cons, four_length, ih]; omega
theorem ofNums_append (a b : List Int) : strOfNums (a ++ b) = strOfNums a ++ strOfNums b := by
  unfold strOfNums
  ext1
  simp
theorem ofNums_size (a : List Int) : (strOfNums a).size = a.length := by
  unfold strOfNums
  simp [ByteArray.size]
theorem rbig (x : Int) : postilionref01_Big.f x = some (strOfNums (four x)) := by
  unfold postilionref01_Big.f four
  rw [show x % 4294967296 / 16777216 = x / 16777216 % 256 by omega, show x % 4294967296 / 65536 % 256 = x / 65536 % 256 by omega, show x % 4294967296 / 256 % 256 = x / 256 % 256 by omega]
theorem rd_at (l : List Int) (i : Nat) (h : i < l.length) : rd l (i : Int) = l[i] := by
  unfold rd
  simp [List.getD_eq_getElem?_getD, h]
theorem pbigs_loop (n : Nat) : ∀ (l acc : List Int) (i k : Nat), i + n = l.length → n < k → l.length < 1000000 → acc.length + 4 * n < 1000000000 → num_Bigs.l0 k acc l (l.length : Int) (i : Int) = some (strOfNums (acc ++ (l.drop i).flatMap four)) := by
  induction n with
  | zero =>
    intro l acc i k hi hk hl _
    obtain ⟨k, rfl⟩ : ∃ m, k = m + 1 := ⟨k - 1, by omega⟩
    simp only [num_Bigs.l0]
    rw [if_neg (by omega), List.drop_of_length_le (by omega)]
    simp
  | succ n ih =>
    intro l acc i k hi hk hl ha
    obtain ⟨k, rfl⟩ : ∃ m, k = m + 1 := ⟨k - 1, by omega⟩
    simp only [num_Bigs.l0, Option.bind_some]
    have hw : wrap64 ((i : Int) + 1) = ((i + 1 : Nat) : Int) := by unfold wrap64; omega
    rw [if_pos (by omega), if_pos (by omega), if_pos (by omega), if_pos (by simp; omega), hw, ih l _ (i + 1) k (by omega) (by omega) hl (by simp; omega), rd_at l i (by omega)]
    rw [List.drop_eq_getElem_cons (show i < l.length by omega), List.flatMap_cons]
    simp [four]
theorem pbigs (l : List Int) (k : Nat) (hk : l.length < k) (hl : l.length < 1000000) : num_Bigs.f k l = some (strOfNums (l.flatMap four)) := by
  unfold num_Bigs.f
  have := pbigs_loop l.length l [] 0 k (by omega) hk hl (by simp; omega)
  simpa using this
theorem rbigs_loop (n : Nat) : ∀ (l : List Int) (s : ByteArray) (i k : Nat), i + n = l.length → n < k → l.length < 1000000 → s.size + 4 * n < 1000000000 → postilionref01_Bigs.l0 k l s (i : Int) = some (s ++ strOfNums ((l.drop i).flatMap four)) := by
  induction n with
  | zero =>
    intro l s i k hi hk hl _
    obtain ⟨k, rfl⟩ : ∃ m, k = m + 1 := ⟨k - 1, by omega⟩
    simp only [postilionref01_Bigs.l0]
    rw [if_neg (by omega), List.drop_of_length_le (by omega)]
    simp only [List.flatMap_nil]
    congr 1
    ext1
    simp [strOfNums]
  | succ n ih =>
    intro l s i k hi hk hl ha
    obtain ⟨k, rfl⟩ : ∃ m, k = m + 1 := ⟨k - 1, by omega⟩
    simp only [postilionref01_Bigs.l0]
    have hw : wrap64 ((i : Int) + 1) = ((i + 1 : Nat) : Int) := by unfold wrap64; omega
    rw [if_pos (by omega), if_pos (by omega), rbig, Option.bind_some, if_pos (by rw [ofNums_size, four_length]; omega), hw, ih l _ (i + 1) k (by omega) (by omega) hl (by rw [ByteArray.size_append, ofNums_size, four_length]; omega), rd_at l i (by omega)]
    rw [List.drop_eq_getElem_cons (show i < l.length by omega), List.flatMap_cons, ofNums_append, ByteArray.append_assoc]
theorem rbigs (l : List Int) (k : Nat) (hk : l.length < k) (hl : l.length < 1000000) : postilionref01_Bigs.f k l = some (strOfNums (l.flatMap four)) := by
  unfold postilionref01_Bigs.f
  have := rbigs_loop l.length l ⟨#[]⟩ 0 k (by omega) hk hl (by simp [ByteArray.size]; omega)
  rw [show ((0 : Nat) : Int) = 0 from rfl] at this
  rw [this, List.drop_zero]
  congr 1
end Go.Proofs.Ythpgppamdejjhaa.PureR
