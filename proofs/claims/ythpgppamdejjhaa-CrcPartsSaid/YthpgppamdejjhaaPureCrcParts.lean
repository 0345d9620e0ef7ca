/- CrcParts, without the program: both ways come to the same, and of parts to what all together come to. -/
import Derived.Test.YthpgppamdejjhaaX4
import Derived.Test.YthpgppamdejjhaaGCrcPure
namespace Go.Proofs.Ythpgppamdejjhaa.Pure
open Go.RowKit Go.Proofs.Ythpgppamdejjhaa.X Go.Proofs.YthpgppamdejjhaaW.PrintWords Go.Proofs.YthpgppamdejjhaaW.PrintLast
open Go.Proofs.Ythpgppamdejjhaa.G (crcSum crcMore cat crun xr call)
theorem bytes_append (a b : ByteArray) : (a ++ b).data.toList = a.data.toList ++ b.data.toList := by
  simp [ByteArray.data_append]
theorem sum_three (a b c : ByteArray) : crcSum [a, b, c] = crcSum [a ++ b ++ c] := by
  unfold crcSum
  congr 4
  simp [cat]
theorem xr_back (c : BitVec 32) : xr (xr c call) call = c := by
  unfold xr
  rw [BitVec.xor_assoc, BitVec.xor_self, BitVec.xor_zero]
theorem more_behind (a b : ByteArray) : crcMore (crcSum [a]) b = crcSum [a ++ b] := by
  unfold crcSum crcMore
  rw [show BitVec.ofInt 32 (((xr (crun call (cat [a])) call).toNat : Nat) : Int) = xr (crun call (cat [a])) call from by rw [BitVec.ofInt_natCast, BitVec.ofNat_toNat, BitVec.setWidth_eq], xr_back]
  simp [cat, G.crun_append]
theorem CrcParts : postilionlaw02_CrcParts.Pure := by
  intro a b c _ _ _
  refine ⟨10, ?_⟩
  unfold postilionlaw02_CrcParts.f
  have hj : postilionlaw02_CrcParts.j0 10 a b c true = some true := by
    simp only [postilionlaw02_CrcParts.j0, if_true]
    rw [awake02 0]
    rfl
  split
  · exact hj
  split
  · exact hj
  by_cases h : (c.size : Int) > 1024
  · rw [decide_eq_true h]
    exact hj
  · rw [decide_eq_false h]
    simp only [postilionlaw02_CrcParts.j0]
    have e1 : (a ++ b).size = a.size + b.size := ByteArray.size_append ..
    have e2 : (b ++ c).size = b.size + c.size := ByteArray.size_append ..
    have e3 : (a ++ b ++ c).size = a.size + b.size + c.size := by rw [ByteArray.size_append, e1]
    rw [if_neg (by simp), if_pos (by omega), if_pos (by omega), psum _ (by simp; omega), Option.bind_some, pslow _ (by omega), Option.bind_some, if_pos (sum_three a b c)]
    rw [psum _ (by simp; omega), Option.bind_some, Option.bind_some, if_pos rfl, psum _ (by simp; omega), Option.bind_some, if_pos (by omega), pmore _ _ (by omega), Option.bind_some, Option.bind_some]
    rw [if_pos (by rw [more_behind, ByteArray.append_assoc]), awake02 0]
    rfl
end Go.Proofs.Ythpgppamdejjhaa.Pure
