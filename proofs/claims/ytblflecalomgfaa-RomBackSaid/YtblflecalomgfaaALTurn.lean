/- Sums of bytes of which up to 32 bits that follow one another are turned (no program in sight). -/
import Derived.Test.YtblflecalomgfaaGCrcMath
set_option linter.unusedSimpArgs false
set_option linter.unusedVariables false
namespace Go.Proofs.Ytblflecalomgfaa.G
/-- The byte that is laid over byte i. -/
def over (bits : Nat) (i : Nat) : UInt8 := UInt8.ofNat (bits / 2 ^ (8 * i))
/-- The bytes, the first i of four from j on turned. -/
def turn (l : List UInt8) (j bits : Nat) : Nat → List UInt8
  | 0 => l
  | i + 1 => (turn l j bits i).set (j + i) ((l.getD (j + i) 0) ^^^ over bits i)
theorem turn_length (l : List UInt8) (j bits i : Nat) : (turn l j bits i).length = l.length := by
  induction i with
  | zero => rfl
  | succ i ih => simp [turn, ih]
theorem over_bits (bits : Nat) (hb : bits < 4294967296) (i : Nat) : cbyte (over bits i) = (BitVec.ofNat 32 bits >>> (8 * i)) &&& 0xff#32 := by
  apply BitVec.eq_of_toNat_eq
  have h1 : (cbyte (over bits i)).toNat = bits / 2 ^ (8 * i) % 256 := by
    unfold cbyte over
    simp
    omega
  rw [h1, BitVec.toNat_and, BitVec.toNat_ushiftRight, Nat.shiftRight_eq_div_pow, BitVec.toNat_ofNat]
  show _ = (bits % 2 ^ 32 / 2 ^ (8 * i)) &&& (2 ^ 8 - 1)
  rw [Nat.and_two_pow_sub_one_eq_mod, Nat.mod_eq_of_lt hb]
/-- The state behind i of the turning bytes, from nothing. -/
def behind (bits : Nat) : Nat → BitVec 32
  | 0 => 0#32
  | i + 1 => ceight (behind bits i ^^^ cbyte (over bits i))
def eights : Nat → BitVec 32 → BitVec 32
  | 0, v => v
  | i + 1, v => ceight (eights i v)
theorem eights_is (bits : Nat) (hb : bits < 4294967296) (i : Nat) : eights i (BitVec.ofNat 32 bits) = behind bits i ^^^ (BitVec.ofNat 32 bits >>> (8 * i)) := by
  induction i with
  | zero => simp [eights, behind]
  | succ i ih =>
    have h8 : BitVec.ofNat 32 bits >>> (8 * i) >>> 8 = BitVec.ofNat 32 bits >>> (8 * (i + 1)) := by
      apply BitVec.eq_of_toNat_eq
      simp only [BitVec.toNat_ushiftRight, Nat.shiftRight_eq_div_pow, Nat.div_div_eq_div_mul, ← Nat.pow_add]
      rfl
    simp only [eights, behind]
    rw [ih, ceight_xor, ceight_split (BitVec.ofNat 32 bits >>> (8 * i)), ← over_bits bits hb i, h8, ceight_xor, BitVec.xor_assoc]
    congr 1
    rw [BitVec.xor_comm]
theorem eights_ne (i : Nat) (v : BitVec 32) (h : eights i v = 0#32) : v = 0#32 := by
  induction i with
  | zero => exact h
  | succ i ih => exact ih (ceight_ne _ h)
theorem behind_ne (bits : Nat) (hb : bits < 4294967296) (h0 : 0 < bits) : behind bits 4 ≠ 0#32 := by
  intro h
  have h1 := eights_is bits hb 4
  have h2 : BitVec.ofNat 32 bits >>> (8 * 4) = 0#32 := by
    apply BitVec.eq_of_toNat_eq
    rw [BitVec.toNat_ushiftRight, Nat.shiftRight_eq_div_pow, BitVec.toNat_ofNat]
    simp
  rw [h2, h] at h1
  have h3 := eights_ne 4 _ (h1.trans (by simp))
  have h4 := congrArg BitVec.toNat h3
  simp at h4
  omega
theorem turn_split (p q : List UInt8) (a b c d : UInt8) (bits : Nat) :
    turn (p ++ a :: b :: c :: d :: q) p.length bits 4 = p ++ (a ^^^ over bits 0) :: (b ^^^ over bits 1) :: (c ^^^ over bits 2) :: (d ^^^ over bits 3) :: q := by
  simp [turn]
theorem turn_sum (l : List UInt8) (j bits : Nat) (hj : j + 4 ≤ l.length) (hb : bits < 4294967296) (h0 : 0 < bits) (s : BitVec 32) : crun s (turn l j bits 4) ≠ crun s l := by
  obtain ⟨p, q, a, b, c, d, rfl, rfl⟩ : ∃ p q a b c d, l = p ++ a :: b :: c :: d :: q ∧ j = p.length := by
    have e1 := List.drop_eq_getElem_cons (l := l) (i := j) (by omega)
    have e2 := List.drop_eq_getElem_cons (l := l) (i := j + 1) (by omega)
    have e3 := List.drop_eq_getElem_cons (l := l) (i := j + 1 + 1) (by omega)
    have e4 := List.drop_eq_getElem_cons (l := l) (i := j + 1 + 1 + 1) (by omega)
    refine ⟨l.take j, l.drop (j + 1 + 1 + 1 + 1), l[j], l[j + 1], l[j + 1 + 1], l[j + 1 + 1 + 1], ?_, by simp; omega⟩
    rw [← e4, ← e3, ← e2, ← e1, List.take_append_drop]
  rw [turn_split, crun_append, crun_append]
  generalize crun s p = t
  have hx := crun_xor [a, b, c, d] [over bits 0, over bits 1, over bits 2, over bits 3] t 0#32 rfl
  have h4 : crun 0#32 [over bits 0, over bits 1, over bits 2, over bits 3] = behind bits 4 := by simp [crun, behind]
  rw [h4] at hx
  simp only [BitVec.xor_zero, List.zipWith_cons_cons, List.zipWith_nil_left] at hx
  have e1 : crun t ((a ^^^ over bits 0) :: (b ^^^ over bits 1) :: (c ^^^ over bits 2) :: (d ^^^ over bits 3) :: q) = crun (crun t [a ^^^ over bits 0, b ^^^ over bits 1, c ^^^ over bits 2, d ^^^ over bits 3]) q := by rw [← crun_append]; rfl
  have e2 : crun t (a :: b :: c :: d :: q) = crun (crun t [a, b, c, d]) q := by rw [← crun_append]; rfl
  rw [e1, e2, hx]
  refine crun_ne q _ _ (fun h => behind_ne bits hb h0 ?_)
  have h5 := congrArg (fun x => crun t [a, b, c, d] ^^^ x) h
  simp only [← BitVec.xor_assoc, BitVec.xor_self, BitVec.zero_xor] at h5
  exact h5
end Go.Proofs.Ytblflecalomgfaa.G
