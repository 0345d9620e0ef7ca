/- What is put is read as it was (no program in sight). -/
import Derived.Test.YthpgppamdejjhaaALRec
set_option linter.unusedSimpArgs false
set_option linter.unusedVariables false
namespace Go.Proofs.Ythpgppamdejjhaa.AL
open Go Go.Proofs Go.Proofs.Ythpgppamdejjhaa.G
theorem b8_nat (n : Int) : (b8 n).toNat = (n % 256).toNat := by
  have := b8_num n
  omega
theorem big_four {n : Int} (h0 : 0 ≤ n) (h1 : n < 4294967296) : (big (four n) : Int) = n := by
  simp only [big, four, List.foldl_cons, List.foldl_nil, b8_nat]
  omega
theorem big_four_nat {n : Nat} (h1 : n < 4294967296) : big (four (n : Int)) = n := by
  have := big_four (n := (n : Int)) (by omega) (by omega)
  omega
theorem crcOf_range (c : BitVec 32) (l : List UInt8) : 0 ≤ crcOf c l ∧ crcOf c l < 4294967296 := by
  unfold crcOf
  have := (xr (crun c l) call).isLt
  omega
theorem body_ok {n : Int} {d : List UInt8} (h0 : 0 ≤ n) (h1 : n < 4294967296) (hd : d.length ≤ 496) :
    bodyL n d = (four n ++ four (d.length : Int) ++ four (crcOf call (four n ++ four (d.length : Int) ++ d)) ++ d, 0) := by
  unfold bodyL
  rw [if_neg (by omega), if_neg (by omega)]
/-- A sector of twelve bytes of head told apart. -/
theorem recL_parts (x y z d more : List UInt8) (hx : x.length = 4) (hy : y.length = 4) (hz : z.length = 4) (hd : big y = d.length) (h5 : d.length ≤ 496) (hc : crcOf call (x ++ y ++ d) = (big z : Int)) :
    recL (penv ++ (x ++ y ++ z ++ d) ++ more) = ((big x : Int), d, 0) := by
  match x, hx, y, hy, z, hz with
  | [a0, a1, a2, a3], _, [b0, b1, b2, b3], _, [c0, c1, c2, c3], _ =>
    have e4 : (List.take 4 (List.drop 4 (penv ++ ([a0, a1, a2, a3] ++ [b0, b1, b2, b3] ++ [c0, c1, c2, c3] ++ d) ++ more))) = [a0, a1, a2, a3] := rfl
    have e8 : (List.take 4 (List.drop 8 (penv ++ ([a0, a1, a2, a3] ++ [b0, b1, b2, b3] ++ [c0, c1, c2, c3] ++ d) ++ more))) = [b0, b1, b2, b3] := rfl
    have e12 : (List.take 4 (List.drop 12 (penv ++ ([a0, a1, a2, a3] ++ [b0, b1, b2, b3] ++ [c0, c1, c2, c3] ++ d) ++ more))) = [c0, c1, c2, c3] := rfl
    have e0 : (List.take 4 (penv ++ ([a0, a1, a2, a3] ++ [b0, b1, b2, b3] ++ [c0, c1, c2, c3] ++ d) ++ more)) = penv := rfl
    have e48 : (List.take 8 (List.drop 4 (penv ++ ([a0, a1, a2, a3] ++ [b0, b1, b2, b3] ++ [c0, c1, c2, c3] ++ d) ++ more))) = [a0, a1, a2, a3] ++ [b0, b1, b2, b3] := rfl
    have e16 : (List.drop 16 (penv ++ ([a0, a1, a2, a3] ++ [b0, b1, b2, b3] ++ [c0, c1, c2, c3] ++ d) ++ more)) = d ++ more := rfl
    have hl : (penv ++ ([a0, a1, a2, a3] ++ [b0, b1, b2, b3] ++ [c0, c1, c2, c3] ++ d) ++ more).length = 16 + d.length + more.length := by simp [penv]; omega
    unfold recL
    rw [e0, e4, e8, e12, e48, e16, hl, hd, List.take_left, if_neg (by omega), if_neg (by simp), if_neg (by omega), if_neg (by omega), if_neg (by simpa using hc)]
theorem recL_sector (n : Int) (d more : List UInt8) (h0 : 0 ≤ n) (h1 : n < 4294967296) (hd : d.length ≤ 496) : recL (penv ++ (bodyL n d).1 ++ more) = (n, d, 0) := by
  rw [body_ok h0 h1 hd]
  have hc := crcOf_range call (four n ++ four (d.length : Int) ++ d)
  rw [recL_parts (four n) (four (d.length : Int)) (four (crcOf call (four n ++ four (d.length : Int) ++ d))) d more rfl rfl rfl (big_four_nat (by omega)) hd (big_four hc.1 hc.2).symm, big_four h0 h1]
theorem recL_unmarked (l : List UInt8) (h : 16 ≤ l.length) (hm : l.take 4 ≠ penv) : recL l = (0, [], 6) := by
  unfold recL
  rw [if_neg (by omega), if_pos hm]
theorem nextN_range (n : Int) : 0 ≤ nextN n ∧ nextN n < 4294967296 := by
  unfold nextN
  simp only [IntKind.wrap_u32, IntKind.wrap_i64]
  omega
theorem newer_next (n : Int) : newerB (nextN n) n = true := by
  unfold newerB nextN
  simp only [IntKind.wrap_u32, IntKind.wrap_i64, Bool.and_eq_true, decide_eq_true_eq]
  omega
theorem next_newer (n : Int) : newerB n (nextN n) = false := by
  unfold newerB nextN
  simp only [IntKind.wrap_u32, IntKind.wrap_i64, Bool.and_eq_false_iff, decide_eq_false_iff_not]
  omega
end Go.Proofs.Ythpgppamdejjhaa.AL
