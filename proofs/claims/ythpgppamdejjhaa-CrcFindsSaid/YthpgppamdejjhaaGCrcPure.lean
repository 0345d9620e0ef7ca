/- What the printed functions of the layer crc (the reference's and the program's) come to: the sum of G.crun. -/
import Derived.Test.YthpgppamdejjhaaX3
import Derived.Test.YthpgppamdejjhaaX3
import Derived.Test.YthpgppamdejjhaaGCrc
set_option linter.unusedVariables false
set_option linter.unusedSimpArgs false
namespace Go.Proofs.Ythpgppamdejjhaa.Pure
open Go.RowKit Go.Proofs.Ythpgppamdejjhaa.X Go.Proofs.YthpgppamdejjhaaW.PrintWords Go.Proofs.YthpgppamdejjhaaW.PrintLast
open Go.Proofs.Ythpgppamdejjhaa.G (cstep ceight crun call cbyte xr cat crcSum crcMore)
theorem rstep (v : BitVec 32) : postilionref02_step.f (v.toNat : Int) = some ((cstep v).toNat : Int) := by
  have hv := v.isLt
  unfold postilionref02_step.f
  rw [Int.tmod_eq_emod_of_nonneg (by omega), Int.tdiv_eq_ediv_of_nonneg (by omega)]
  have h2 : ((v.toNat : Int) / (2 : Int)) % (4294967296 : Int) = (((v >>> 1).toNat : Nat) : Int) := by
    rw [BitVec.toNat_ushiftRight, Nat.shiftRight_eq_div_pow]; omega
  rw [h2]
  unfold cstep
  rw [G.lsb_bv]
  by_cases h : v.toNat % 2 = 1
  · rw [if_pos (by omega), show (3988292384 : Int) = ((G.poly : BitVec 32).toNat : Int) from by decide, G.xor_bv]
    simp [h]
  · rw [if_neg (by omega)]
    simp [h]
theorem pstep (v : BitVec 32) : crc_step.f (v.toNat : Int) = some ((cstep v).toNat : Int) := by
  unfold crc_step.f
  rw [G.step_num]
theorem reight (v : BitVec 32) (m : Nat) : postilionref02_eight.f (m + 9) (v.toNat : Int) = some ((ceight v).toNat : Int) := by
  unfold postilionref02_eight.f
  simp [postilionref02_eight.l0, rstep, wrap64, ceight]
theorem peight (v : BitVec 32) (m : Nat) : crc_steps.f (m + 9) (v.toNat : Int) = some ((ceight v).toNat : Int) := by
  unfold crc_steps.f
  simp [crc_steps.l0, pstep, wrap64, ceight]
theorem bt_nat (s : ByteArray) (i : Nat) (h : i < s.size) : bt s (i : Int) = (((s.data.toList[i]'(by simpa using h)).toNat : Nat) : Int) := by
  unfold bt
  rw [dif_pos (by simpa using h)]
  rfl
theorem drop_at (s : ByteArray) (i : Nat) (h : i < s.size) : s.data.toList.drop i = (s.data.toList[i]'(by simpa using h)) :: s.data.toList.drop (i + 1) := by
  rw [List.drop_eq_getElem_cons (by simpa using h)]
theorem wrap_next {i n : Nat} (h : i < n) (hn : n ≤ 9223372036854775807) : wrap64 ((i : Int) + 1) = ((i + 1 : Nat) : Int) := by
  unfold wrap64
  omega
theorem rmore_loop (s : ByteArray) (hs : s.size ≤ 9223372036854775807) (d : Nat) : ∀ (i : Nat) (c : BitVec 32) (k : Nat), i + d = s.size → d + 10 ≤ k →
    postilionref02_More.l0 k s (c.toNat : Int) (i : Int) = some ((xr (crun c (s.data.toList.drop i)) call).toNat : Int) := by
  induction d with
  | zero =>
    intro i c k hi hk
    obtain ⟨k, rfl⟩ : ∃ m, k = m + 1 := ⟨k - 1, by omega⟩
    have e : s.data.toList.drop i = [] := by
      apply List.drop_eq_nil_of_le
      simp; omega
    simp only [postilionref02_More.l0]
    rw [if_neg (by omega), e, G.crun_nil]
    rw [show (4294967295 : Int) = ((call : BitVec 32).toNat : Int) from by decide, G.xr_bv, G.u32_small]
  | succ d ih =>
    intro i c k hi hk
    obtain ⟨k, rfl⟩ : ∃ m, k = m + 1 := ⟨k - 1, by omega⟩
    have hlt : i < s.size := by omega
    obtain ⟨m, hm⟩ : ∃ m, k = m + 9 := ⟨k - 9, by omega⟩
    simp only [postilionref02_More.l0]
    rw [if_pos (by omega), if_pos (by omega), bt_nat s i hlt, G.byte_num, G.xr_bv]
    conv => lhs; rw [hm, reight, Option.bind_some]
    rw [wrap_next hlt hs, ← hm, ih (i + 1) _ k (by omega) (by omega), drop_at s i hlt, G.crun_cons]
    rfl
theorem rmore (a : Int) (s : ByteArray) (hs : s.size ≤ 9223372036854775807) (k : Nat) (hk : s.size + 10 ≤ k) : postilionref02_More.f k a s = some (crcMore a s) := by
  unfold postilionref02_More.f
  rw [G.ofInt_num, show (4294967295 : Int) = ((call : BitVec 32).toNat : Int) from by decide, G.xr_bv]
  have := rmore_loop s hs s.size 0 (xr (BitVec.ofInt 32 a) call) k (by omega) hk
  rw [show ((0 : Nat) : Int) = 0 from rfl] at this
  rw [this]
  rfl
theorem crcSum_one (s : ByteArray) : crcSum [s] = crcMore 0 s := by
  unfold crcSum crcMore
  have : xr (BitVec.ofInt 32 0) call = call := by decide
  rw [this]
  simp [cat]
theorem rsum (s : ByteArray) (hs : s.size ≤ 9223372036854775807) (k : Nat) (hk : s.size + 10 ≤ k) : postilionref02_Sum.f k s = some (crcSum [s]) := by
  unfold postilionref02_Sum.f
  rw [rmore 0 s hs k hk, crcSum_one]
  rfl
theorem psum (l : List ByteArray) (h : ∀ s ∈ l, s.size ≤ 9223372036854775807) : crc_Sum.f l = some (crcSum l) := by
  unfold crc_Sum.f
  rw [if_pos h]
theorem pmore (a : Int) (s : ByteArray) (hs : s.size ≤ 9223372036854775807) : crc_More.f a s = some (crcMore a s) := by
  unfold crc_More.f
  rw [if_pos hs]
theorem pslow (s : ByteArray) (hs : s.size ≤ 9223372036854775807) : crc_Slow.f s = some (crcSum [s]) := by
  unfold crc_Slow.f
  rw [pmore 0 s hs, crcSum_one]
  rfl
def entry (a : Int) : Int := ((ceight (BitVec.ofNat 32 (a % 256).toNat)).toNat : Int)
theorem entry_arg (a : Int) : a % 256 = ((BitVec.ofNat 32 (a % 256).toNat).toNat : Int) := by
  rw [BitVec.toNat_ofNat]
  omega
theorem pentry (a : Int) (m : Nat) : crc_Entry.f (m + 9) a = some (entry a) := by
  unfold crc_Entry.f
  rw [entry_arg a, peight, Option.bind_some, G.u32_small]
  rfl
theorem rentry (a : Int) (m : Nat) : postilionref02_Entry.f (m + 9) a = some (entry a) := by
  unfold postilionref02_Entry.f
  rw [show a % 4294967296 % 256 = a % 256 from by omega, entry_arg a, reight, Option.bind_some, G.u32_small]
  rfl
theorem awake02 (m : Nat) : postilionlaw02_awake.f (m + 9) = some true := by
  unfold postilionlaw02_awake.f
  rw [pslow _ (by decide), psum _ (by decide), psum _ (by decide), pentry]
  decide +kernel
end Go.Proofs.Ythpgppamdejjhaa.Pure
