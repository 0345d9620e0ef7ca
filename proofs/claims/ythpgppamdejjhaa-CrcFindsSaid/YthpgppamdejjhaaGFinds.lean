/- The walk of the law CrcFinds: what it answers, over any memory. -/
import Derived.Test.YthpgppamdejjhaaX3
import Derived.Test.YthpgppamdejjhaaGCrc
import Derived.Test.YthpgppamdejjhaaGBytes
import Derived.RegionTactic
import Derived.ChangeAlike
import Derived.Outline
import Derived.Laws.Closers25b
set_option linter.unusedVariables false
set_option linter.unusedSimpArgs false
namespace Go.Proofs.Ythpgppamdejjhaa.G
open Go.RowKit Go.Proofs.YthpgppamdejjhaaW.PrintWords Go.Proofs.YthpgppamdejjhaaW.PrintLast Go.Proofs.Ythpgppamdejjhaa.X
theorem finds_long (k : Nat) (s : ByteArray) (at_ bits : Int) (w : World) (hc : decide (1024 < (s.size : Int)) = true) (ha : postilionlaw02_awake.f k = some true) :
    Calls Try.prog 5 #[.string s, .int .u16 at_, .int .u32 bits] w fun e w' => e = .returned (.bool true) ∧ Below w.heap.size w w' := by
  have HA := Aside0.mk ha
  clear ha
  go_enter Try.func5, Try.ntmps5
  go_wp2_with (go_at_call 22; refine (postilionlaw02_awake.calls k true _ HA.out).mono ?_; rintro e w' ⟨rfl, hb⟩)
  go_ret
  exact ⟨rfl, hb⟩
theorem finds_short (k : Nat) (s : ByteArray) (at_ bits : Int) (w : World) (hc : decide (1024 < (s.size : Int)) = false) (hd : decide ((s.size : Int) < 4) = true) (ha : postilionlaw02_awake.f k = some true) :
    Calls Try.prog 5 #[.string s, .int .u16 at_, .int .u32 bits] w fun e w' => e = .returned (.bool true) ∧ Below w.heap.size w w' := by
  have HA := Aside0.mk ha
  clear ha
  go_enter Try.func5, Try.ntmps5
  go_wp2_with (go_at_call 22; refine (postilionlaw02_awake.calls k true _ HA.out).mono ?_; rintro e w' ⟨rfl, hb⟩)
  go_ret
  exact ⟨rfl, hb⟩
theorem finds_none (k : Nat) (s : ByteArray) (at_ : Int) (w : World) (hc : decide (1024 < (s.size : Int)) = false) (hd : decide ((s.size : Int) < 4) = false) (ha : postilionlaw02_awake.f k = some true) :
    Calls Try.prog 5 #[.string s, .int .u16 at_, .int .u32 0] w fun e w' => e = .returned (.bool true) ∧ Below w.heap.size w w' := by
  have HA := Aside0.mk ha
  clear ha
  go_enter Try.func5, Try.ntmps5
  go_wp2_with (go_at_call 22; refine (postilionlaw02_awake.calls k true _ HA.out).mono ?_; rintro e w' ⟨rfl, hb⟩)
  go_ret
  exact ⟨rfl, hb⟩
/-- The byte that is laid over byte i. -/
def over (bits : Nat) (i : Nat) : UInt8 := UInt8.ofNat (bits / 2 ^ (8 * i))
/-- The bytes, the first i of four from j on turned. -/
def turn (l : List UInt8) (j bits : Nat) : Nat → List UInt8
  | 0 => l
  | i + 1 => (turn l j bits i).set (j + i) ((l.getD (j + i) 0) ^^^ over bits i)
theorem turn_length (l : List UInt8) (j bits i : Nat) : (turn l j bits i).length = l.length := by
  induction i with
  | zero => rfl
  | succ i ih => simp [turn, ih]
theorem turn_at (l : List UInt8) (j bits i : Nat) (m : Nat) (hm : j + i ≤ m) : (turn l j bits i)[m]? = l[m]? := by
  induction i with
  | zero => rfl
  | succ i ih =>
    simp only [turn]
    rw [List.getElem?_set_ne (by omega), ih (by omega)]
theorem over_num (bits : Nat) (i : Nat) : (bits : Int) / 2 ^ (8 * i) % 256 = (((over bits i).toNat : Nat) : Int) := by
  unfold over
  simp
theorem one_row (W : World) (t : TypeId) (x : ByteArray) : Kd.C Kd.string (W.alloc (.cells #[.string x] t)) (some ⟨W.heap.size, 0, none⟩) 1 [x] := by
  refine ⟨rfl, by simp, fun _ => ⟨_, rfl, fun j p hj => ?_⟩⟩
  cases j with
  | zero =>
    simp at hj
    subst hj
    refine ⟨[.string x], rfl, rfl, fun i u hu => ?_⟩
    cases i with
    | zero =>
      simp at hu
      subst hu
      rw [add_plain]
      exact (cell_of_row _ _ _ _ _ _ (heap_alloc_new W _)).trans rfl
    | succ i => simp at hu
  | succ j => simp at hj
theorem xor_byte (a b : UInt8) : bits .xor .u8 (a.toNat : Int) (b.toNat : Int) = (((a ^^^ b).toNat : Nat) : Int) := by
  have h1 := a.toNat_lt
  have h2 := b.toNat_lt
  have h3 := (a ^^^ b).toNat_lt
  have h : bits .xor .u8 ((a.toNat : Nat) : Int) (b.toNat : Int) = IntKind.u8.wrap ((BitVec.ofInt 8 (a.toNat : Int) ^^^ BitVec.ofInt 8 (b.toNat : Int)).toNat : Int) := rfl
  rw [h, BitVec.ofInt_natCast, BitVec.ofInt_natCast, BitVec.toNat_xor, BitVec.toNat_ofNat, BitVec.toNat_ofNat, Nat.mod_eq_of_lt h1, Nat.mod_eq_of_lt h2, IntKind.wrap_u8, ← UInt8.toNat_xor]
  omega
set_option maxHeartbeats 1000000 in
theorem finds_main (k : Nat) (s : ByteArray) (at_ bits j : Nat) (w : World) (hc : decide (1024 < (s.size : Int)) = false) (hd : decide ((s.size : Int) < 4) = false) (h0 : 0 < bits) (hb : bits < 4294967296) (hat : at_ < 65536) (hj : j = at_ % (s.size - 3))
    (hne : crcSum [toStr (turn s.data.toList j bits 4)] ≠ crcSum [s]) (ha : postilionlaw02_awake.f k = some true) :
    Calls Try.prog 5 #[.string s, .int .u16 (at_ : Int), .int .u32 (bits : Int)] w fun e w' => e = .returned (.bool true) ∧ Below w.heap.size w w' := by
  have hs1 : s.size ≤ 1024 := by have := of_decide_eq_false hc; omega
  have hs4 : 4 ≤ s.size := by have := of_decide_eq_false hd; omega
  have hjl : j + 4 ≤ s.size := by
    have := Nat.mod_lt at_ (show 0 < s.size - 3 by omega)
    omega
  have hcv := fun W => print_bytes (P := Try.prog) 9 31 5 Try.underlying9 Try.underlying31 Try.underlying5 s W
  have hmod : (at_ : Int) % ((s.size : Int) - 3) = (j : Int) := by
    rw [hj, Int.natCast_emod, show ((s.size - 3 : Nat) : Int) = (s.size : Int) - 3 from by omega]
  have hz : ((bits : Int) == 0) = false := by simp; omega
  have HA := Aside0.mk ha
  have HN := Aside0.mk hne
  clear ha hne hj
  go_enter Try.func5, Try.ntmps5
  go_wp2_with fail
  simp only [hmod, hz]
  go_loopw [9] (fun x wr => ∃ i : Nat, i ≤ 4 ∧ x = .int .i64 i ∧ Aside0 (BRow wr w.heap.size (turn s.data.toList j bits i)) ∧ Aside0 (Below w.heap.size w wr)) (fun x _ => 4 - (intOf x).toNat)
  case atStart => exact ⟨0, by omega, rfl, ⟨brow_new w s⟩, ⟨bytes_below (Below.refl _ _) (Nat.le_refl _) _ _⟩⟩
  case round =>
    obtain ⟨i, hi, rfl, HR, HB⟩ := hrel
    by_cases hlt : i < 4
    · have hl : j + i < (turn s.data.toList j bits i).length := by rw [turn_length]; simp; omega
      have hcell := brow_cell HR.out (j + i) hl
      have hfr := brow_frozen HR.out (j + i) hl
      have hset := Aside0.mk (fun b => brow_set HR.out (j + i) hl b)
      have hbb : (turn s.data.toList j bits i)[j + i] = s.data.toList.getD (j + i) 0 := by
        have h1 := turn_at s.data.toList j bits i (j + i) (Nat.le_refl _)
        rw [List.getElem?_eq_getElem hl] at h1
        rw [List.getD_eq_getElem?_getD, ← h1]
        rfl
      rw [hbb] at hcell
      have hnx := Aside0.mk (show turn s.data.toList j bits (i + 1) = (turn s.data.toList j bits i).set (j + i) (s.data.toList.getD (j + i) 0 ^^^ over bits i) from rfl)
      generalize s.data.toList.getD (j + i) 0 = b at hcell hnx
      have hov := over_num bits i
      generalize over bits i = y at hov hnx
      have hxy := xor_byte b y
      generalize b ^^^ y = z at hxy hnx
      clear hbb
      go_wp2
      go_region
      all_goals
        go_wp2
        go_roundw
        case rel => exact ⟨i + 1, by omega, by go_num, ⟨by rw [hnx.out]; exact brow_drew (hset.out z)⟩, ⟨(HB.out.setCell (Nat.le_refl _) _).drew⟩⟩
        case measure => simp [intOf]; omega
    · obtain rfl : i = 4 := by omega
      have hlen : (turn s.data.toList j bits 4).length = s.size := by rw [turn_length]; simp
      have hstr := brow_string (P := Try.prog) 31 9 5 Try.underlying31 Try.underlying5 Try.underlying9 (c := grownCap w s.size 0 5) HR.out (by rw [hlen]; omega)
      rw [hlen] at hstr
      have hxs : (toStr (turn s.data.toList j bits 4)).size ≤ 9223372036854775807 := by rw [toStr_size, hlen]; omega
      have hneq : (crcSum [toStr (turn s.data.toList j bits 4)] != crcSum [s]) = true := bne_iff_ne.2 HN.out
      generalize toStr (turn s.data.toList j bits 4) = x at hstr hxs hneq
      clear HN hmod hcv
      go_wp2_with fail
      refine (sum_calls (some ⟨wr.heap.size, 0, none⟩) 1 [x] _ (one_row wr _ x) (by simp) (by simpa using hxs)).mono ?_
      rintro e w1 ⟨rfl, hb1⟩
      go_wp2_with fail
      refine (sum_calls (some ⟨w1.heap.size, 0, none⟩) 1 [s] _ (one_row w1 _ s) (by simp) (by simp; omega)).mono ?_
      rintro e w2 ⟨rfl, hb2⟩
      go_wp2_with (go_at_call 22; refine (postilionlaw02_awake.calls k true _ HA.out).mono ?_; rintro e w' ⟨rfl, hb3⟩)
      go_ret
      have b1 : Below w.heap.size w (wr.alloc (.cells #[.string x] 9)) := below_alloc HB.out _
      have b2 : Below w.heap.size w (w1.alloc (.cells #[.string s] 9)) := below_alloc (below_then b1 b1.size hb1) _
      have b3 := below_then b2 b2.size hb2
      exact ⟨rfl, below_then b3 b3.size hb3⟩
end Go.Proofs.Ythpgppamdejjhaa.G
