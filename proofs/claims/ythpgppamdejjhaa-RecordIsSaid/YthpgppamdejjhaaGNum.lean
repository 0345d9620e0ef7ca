/- The walk of num.FromBig: the number that bytes begin with. -/
import Derived.Test.YthpgppamdejjhaaProg
import Derived.WalkKit
import Derived.KernelRfl
import Derived.Below
import Derived.Deep.LoopGhost
import Derived.Lib.ConvBytes
import Derived.Lib.Hide
import Derived.Outline
import Derived.Laws.Rows
import Derived.Laws.BitsLemmas
import Derived.Test.YthpgppamdejjhaaWWords
set_option linter.unusedVariables false
set_option linter.unusedSimpArgs false
namespace Go.Proofs.Ythpgppamdejjhaa.G
open Go.RowKit Go.Proofs.YthpgppamdejjhaaW.PrintWords
/-- The number of the first k bytes. -/
def bigTo (s : ByteArray) : Nat → Int
  | 0 => 0
  | k + 1 => bigTo s k * 256 + bt s k
def fromBig (s : ByteArray) : Int × Bool := if s.size < 4 then (0, false) else (bigTo s 4, true)
theorem bigTo_range (s : ByteArray) (k : Nat) : 0 ≤ bigTo s k ∧ bigTo s k < 256 ^ k := by
  induction k with
  | zero => simp [bigTo]
  | succ k ih =>
    have := bt_range s k
    simp only [bigTo, Int.pow_succ]
    omega
theorem bigTo_num (s : ByteArray) (k : Nat) (hk : k < 4) : bits .or .i64 (bigTo s k * 256) (bt s k) = bigTo s (k + 1) := by
  have h1 := bigTo_range s k
  have h2 := bt_range s k
  have h3 : (256 : Int) ^ k ≤ 16777216 := by
    have : k = 0 ∨ k = 1 ∨ k = 2 ∨ k = 3 := by omega
    rcases this with rfl | rfl | rfl | rfl <;> decide
  rw [bits_join .i64 63 (by decide) (fun n h0 h1 => by rw [IntKind.wrap_i64]; omega) 8 (bigTo s k * 256) (bt s k) (by omega) (by omega) (by omega) (by omega) (by omega) (by omega)]
  rfl
theorem fromBig_calls (s : ByteArray) (w : World) : Calls Try.prog 76 #[.string s] w fun e w' => e = .returned (.tuple #[.int .i64 (fromBig s).1, .bool (fromBig s).2]) ∧ Below w.heap.size w w' := by
  by_cases hs : s.size < 4
  · have hd : decide ((s.size : Int) < 4) = true := by simp; omega
    go_enter Try.func76, Try.ntmps76
    go_wp2
    go_ret2
    exact ⟨by simp [fromBig, hs], Below.refl _ _⟩
  · have hd : decide ((s.size : Int) < 4) = false := by simp; omega
    have hcv := fun W => print_bytes (P := Try.prog) 9 31 5 Try.underlying9 Try.underlying31 Try.underlying5 (s.extract 0 4) W
    have h4 : 4 ≤ s.size := by omega
    go_enter Try.func76, Try.ntmps76
    go_wp2
    go_loop [4, 14] (fun n i => ∃ k : Nat, k ≤ 4 ∧ i = .int .i64 k ∧ n = .int .i64 (bigTo s k)) (fun _ i => 4 - (intOf i).toNat)
    case atStart => exact ⟨0, by omega, rfl, rfl⟩
    case round =>
      obtain ⟨k, hk, rfl, rfl⟩ := hrel
      by_cases hlt : k < 4
      · have hc : (Lib.bytesWorld w 5 (s.extract 0 4)).cell? ⟨w.heap.size, k, none⟩ = some (.int .u8 (bt s k)) := by
          rw [Lib.bytesWorld_cell w 5 _ k (by simp; omega)]
          have e : bt s (k : Int) = ((s.data.toList[k]'(by simp; omega)).toNat : Int) := by
            unfold bt
            rw [dif_pos (by simp; omega)]
            rfl
          have hl : k < (s.extract 0 4).data.toList.length := by simp; omega
          rw [e, List.getD_eq_getElem?_getD, List.getElem?_eq_getElem hl]
          simp
        have h1 := bt_range s k
        have h2 := bigTo_range s k
        have h3 : (256 : Int) ^ k ≤ 16777216 := by
          have : k = 0 ∨ k = 1 ∨ k = 2 ∨ k = 3 := by omega
          rcases this with rfl | rfl | rfl | rfl <;> decide
        have h4' : bigTo s k < 16777216 := by omega
        obtain ⟨h5, h6⟩ := h1
        obtain ⟨h7, _⟩ := h2
        have hn := bigTo_num s k hlt
        clear h3
        obtain ⟨m, hm⟩ : ∃ m, bigTo s (k + 1) = m := ⟨_, rfl⟩
        have HM := Aside0.mk hm
        rw [hm] at hn
        clear hm
        go_wp2
        go_round
        case rel => exact ⟨k + 1, by omega, by go_num, by rw [HM.out]⟩
        case measure => simp [intOf]; omega
      · obtain rfl : k = 4 := by omega
        go_wp2
        go_ret2
        exact ⟨by simp [fromBig, hs], bytes_below (Below.refl _ _) (Nat.le_refl _) _ _⟩
end Go.Proofs.Ythpgppamdejjhaa.G
