/- The walks over package crc: a step, eight steps, the table, a run by the table, the sum of parts, the sum behind another: what each returns, over any memory. -/
import Derived.Test.YthpgppamdejjhaaProg
import Derived.WalkKit
import Derived.KernelRfl
import Derived.Below
import Derived.Deep.LoopGhost
import Derived.Lib.ConvBytes
import Derived.Lib.Hide
import Derived.Outline
import Derived.Laws.Rows
import Derived.Shelf.Spec.TrailingZeros
import Derived.Test.YthpgppamdejjhaaWWords
import Derived.Test.YthpgppamdejjhaaGCrcMath
set_option linter.unusedVariables false
set_option linter.unusedSimpArgs false
namespace Go.Proofs.Ythpgppamdejjhaa.G
open Go.RowKit Go.Proofs.YthpgppamdejjhaaW.PrintWords

theorem xor_bv (a b : BitVec 32) : bits .xor .u32 (a.toNat : Int) (b.toNat : Int) = ((a ^^^ b).toNat : Int) := by
  have h : bits .xor .u32 (a.toNat : Int) (b.toNat : Int) = IntKind.u32.wrap ((BitVec.ofInt 32 (a.toNat : Int) ^^^ BitVec.ofInt 32 (b.toNat : Int)).toNat : Int) := rfl
  rw [h, BitVec.ofInt_natCast, BitVec.ofInt_natCast, BitVec.ofNat_toNat, BitVec.ofNat_toNat, BitVec.setWidth_eq, BitVec.setWidth_eq, IntKind.wrap_u32]
  have := (a ^^^ b).isLt
  omega
theorem and_bv (a b : BitVec 32) : bits .and .u32 (a.toNat : Int) (b.toNat : Int) = ((a &&& b).toNat : Int) := by
  have h : bits .and .u32 (a.toNat : Int) (b.toNat : Int) = IntKind.u32.wrap ((BitVec.ofInt 32 (a.toNat : Int) &&& BitVec.ofInt 32 (b.toNat : Int)).toNat : Int) := rfl
  rw [h, BitVec.ofInt_natCast, BitVec.ofInt_natCast, BitVec.ofNat_toNat, BitVec.ofNat_toNat, BitVec.setWidth_eq, BitVec.setWidth_eq, IntKind.wrap_u32]
  have := (a &&& b).isLt
  omega
theorem lsb_bv (v : BitVec 32) : v.getLsbD 0 = decide (v.toNat % 2 = 1) := by
  simp [BitVec.getLsbD, Nat.testBit_zero]
theorem step_num (v : BitVec 32) : bits .xor .u32 ((v.toNat : Int) / 2) (bits .and .u32 3988292384 (-(bits .and .u32 (v.toNat : Int) 1) % 4294967296)) = ((cstep v).toNat : Int) := by
  have h1 : bits .and .u32 (v.toNat : Int) 1 = ((v.toNat % 2 : Nat) : Int) := by
    have := and_bv v 1#32
    rw [show ((1#32 : BitVec 32).toNat : Int) = 1 from rfl] at this
    rw [this, BitVec.toNat_and]
    show ((v.toNat &&& 1 : Nat) : Int) = _
    rw [Nat.and_one_is_mod]
  have h2 : ((v.toNat : Int) / (2 : Int)) = (((v >>> 1).toNat : Nat) : Int) := by
    rw [BitVec.toNat_ushiftRight, Nat.shiftRight_eq_div_pow]; omega
  rw [h1, h2]
  unfold cstep
  rw [lsb_bv]
  rcases Nat.mod_two_eq_zero_or_one v.toNat with h | h
  · rw [h]
    rw [show (-((0 : Nat) : Int) % 4294967296) = ((0#32 : BitVec 32).toNat : Int) from by decide, show (3988292384 : Int) = ((poly : BitVec 32).toNat : Int) from by decide, and_bv, xor_bv]
    simp
  · rw [h]
    rw [show (-((1 : Nat) : Int) % 4294967296) = ((0xffffffff#32 : BitVec 32).toNat : Int) from by decide, show (3988292384 : Int) = ((poly : BitVec 32).toNat : Int) from by decide, and_bv, xor_bv]
    simp
    rfl
theorem step_calls (v : BitVec 32) (w : World) : Calls Try.prog 74 #[.int .u32 (v.toNat : Int)] w fun e w' => e = .returned (.int .u32 ((cstep v).toNat : Int)) ∧ w = w' := by
  go_enter Try.func74, Try.ntmps74
  go_wp2
  go_ret
  exact ⟨by rw [step_num]; rfl, rfl⟩
def cstepN : Nat → BitVec 32 → BitVec 32
  | 0, v => v
  | n + 1, v => cstep (cstepN n v)
theorem steps_calls (v : BitVec 32) (w : World) : Calls Try.prog 55 #[.int .u32 (v.toNat : Int)] w fun e w' => e = .returned (.int .u32 ((ceight v).toNat : Int)) ∧ w = w' := by
  go_enter Try.func55, Try.ntmps55
  go_wp2
  go_loop [0, 3] (fun c i => ∃ k : Nat, k ≤ 8 ∧ i = .int .i64 k ∧ c = .int .u32 ((cstepN k v).toNat : Int)) (fun _ i => 8 - (intOf i).toNat)
  case atStart => exact ⟨0, by omega, rfl, rfl⟩
  case round =>
    obtain ⟨k, hk, rfl, rfl⟩ := hrel
    by_cases hlt : k < 8
    · go_wp2_with (go_at_call 74; refine (step_calls _ _).mono ?_; rintro e w' ⟨rfl, rfl⟩)
      go_round
      case rel => exact ⟨k + 1, by omega, by go_num, rfl⟩
      case measure => simp [intOf]; omega
    · obtain rfl : k = 8 := by omega
      go_wp2
      go_ret
      exact ⟨rfl, rfl⟩

/-- The bytes of parts, one behind the other. -/
def cat (l : List ByteArray) : List UInt8 := (l.map fun s => s.data.toList).flatten
/-- The sum, under a name that no simp looks into. -/
def xr (a b : BitVec 32) : BitVec 32 := a ^^^ b
theorem xr_bv (a b : BitVec 32) : bits .xor .u32 (a.toNat : Int) (b.toNat : Int) = ((xr a b).toNat : Int) := xor_bv a b
def crcSum (l : List ByteArray) : Int := ((xr (crun call (cat l)) call).toNat : Int)
def crcMore (a : Int) (s : ByteArray) : Int := ((xr (crun (xr (BitVec.ofInt 32 a) call) s.data.toList) call).toNat : Int)
theorem byte_drop (l : List UInt8) (k : Nat) (h : k < l.length) : l.take (k + 1) = l.take k ++ [l[k]] := by
  rw [List.take_succ_eq_append_getElem h]
theorem crun_take (c : BitVec 32) (l : List UInt8) (k : Nat) (h : k < l.length) : crun c (l.take (k + 1)) = ceight (xr (crun c (l.take k)) (cbyte l[k])) := by
  rw [byte_drop l k h, crun_append]; rfl
theorem ofInt_num (a : Int) : a % 4294967296 = ((BitVec.ofInt 32 a).toNat : Int) := by
  rw [BitVec.toNat_ofInt]
  have : 0 ≤ a % ((2 ^ 32 : Nat) : Int) := Int.emod_nonneg _ (by decide)
  omega
theorem byte_num (b : UInt8) : ((b.toNat : Nat) : Int) % 4294967296 = ((cbyte b).toNat : Int) := by
  have := b.toNat_lt
  simp [cbyte]
  omega
theorem u32_small (v : BitVec 32) : wrap64 ((v.toNat : Nat) : Int) = ((v.toNat : Nat) : Int) := by
  have := v.isLt
  unfold wrap64
  omega
theorem more_calls (a : Int) (s : ByteArray) (w : World) (hs : s.size ≤ 9223372036854775807) : Calls Try.prog 18 #[.int .i64 a, .string s] w fun e w' => e = .returned (.int .i64 (crcMore a s)) ∧ Below w.heap.size w w' := by
  have hcv := fun W => print_bytes (P := Try.prog) 9 31 5 Try.underlying9 Try.underlying31 Try.underlying5 s W
  have hx : ∀ c : BitVec 32, bits .xor .u32 (c.toNat : Int) 4294967295 = ((xr c call).toNat : Int) := fun c => xr_bv c call
  obtain ⟨va, hva⟩ : ∃ v : BitVec 32, v = BitVec.ofInt 32 a := ⟨_, rfl⟩
  have ha : a % 4294967296 = (va.toNat : Int) := by rw [hva]; exact ofInt_num a
  have Hva := Lib.hid hva
  clear hva
  have hxx := xr_bv
  have hu := u32_small
  have hb := byte_num
  go_enter Try.func18, Try.ntmps18
  go_wp2
  simp only [ha]
  go_loop [5, 14] (fun c i => ∃ k : Nat, k ≤ s.size ∧ i = .int .i64 k ∧ c = .int .u32 ((crun (xr va call) (s.data.toList.take k)).toNat : Int)) (fun _ i => s.size - (intOf i).toNat)
  case atStart => exact ⟨0, by omega, rfl, rfl⟩
  case round =>
    obtain ⟨k, hk, rfl, rfl⟩ := hrel
    by_cases hlt : k < s.size
    · have hl : k < s.data.toList.length := by simpa using hlt
      have hc : (Lib.bytesWorld w 5 s).cell? ⟨w.heap.size, k, none⟩ = some (.int .u8 ((s.data.toList[k]).toNat : Int)) := by
        rw [Lib.bytesWorld_cell w 5 s k hlt]
        simp [List.getD_eq_getElem?_getD, List.getElem?_eq_getElem hl]
      have hn := Lib.hid (crun_take (xr va call) s.data.toList k hl)
      generalize s.data.toList[k] = b at hc hn
      generalize crun (xr va call) (s.data.toList.take k) = c at hn
      go_wp2_with (go_at_call 55; refine (steps_calls _ _).mono ?_; rintro e w' ⟨rfl, rfl⟩)
      go_round
      case rel => exact ⟨k + 1, by omega, by go_num, by rw [hn.out]⟩
      case measure => simp [intOf]; omega
    · obtain rfl : k = s.size := by omega
      go_wp2
      go_ret
      exact ⟨by rw [List.take_of_length_le (by simp), crcMore, ← Hva.out]; rfl, bytes_below (Below.refl _ _) (Nat.le_refl _) _ _⟩

def tabv (k : Nat) : Int := ((ceight (BitVec.ofNat 32 k)).toNat : Int)
/-- The table as its block holds it. -/
def tabCells : Array Value := Array.ofFn fun i : Fin 256 => Value.int .u32 (tabv i.val)
/-- The table, its first k entries laid. -/
def tabTo (k : Nat) : Array Value := Array.ofFn fun i : Fin 256 => Value.int .u32 (if i.val < k then tabv i.val else 0)
theorem tabTo_size (k : Nat) : (tabTo k).size = 256 := by simp [tabTo]
theorem tabCells_size : tabCells.size = 256 := by simp [tabCells]
theorem tabTo_last : tabTo 256 = tabCells := by
  apply Array.ext
  · simp [tabTo, tabCells]
  · intro i h1 h2
    simp [tabTo, tabCells] at h1 ⊢
theorem tabTo_set (k : Nat) (hk : k < 256) : (tabTo k).setIfInBounds k (.int .u32 (tabv k)) = tabTo (k + 1) := by
  unfold tabTo
  apply Array.ext
  · simp
  · intro i h1 h2
    have h3 : i < 256 := by simpa using h1
    rw [Array.getElem_setIfInBounds (by simpa using h3)]
    by_cases hi : k = i
    · subst hi; simp
    · have : i < k + 1 ↔ i < k := by omega
      rw [if_neg hi, Array.getElem_ofFn, Array.getElem_ofFn]
      simp only [this]
def sh8 (x : BitVec 32) : BitVec 32 := x >>> 8
def idx (x : BitVec 32) (b : UInt8) : Nat := ((x ^^^ cbyte b) &&& 0xff#32).toNat
theorem idx_nat (x : BitVec 32) (b : UInt8) : idx x b = (x.toNat ^^^ b.toNat) % 256 := by
  have hb := b.toNat_lt
  have : (cbyte b).toNat = b.toNat := by simp [cbyte]
  unfold idx
  rw [BitVec.toNat_and, BitVec.toNat_xor, this]
  exact Nat.and_two_pow_sub_one_eq_mod (n := 8) _
theorem idx_lt (x : BitVec 32) (b : UInt8) : idx x b < 256 := by rw [idx_nat]; omega
theorem idx_num (x : BitVec 32) (b : UInt8) : bits .xor .u8 ((x.toNat : Int) % 256) (b.toNat : Int) = (idx x b : Int) := by
  have hb := b.toNat_lt
  have h : bits .xor .u8 (((x.toNat % 256 : Nat) : Int)) (b.toNat : Int) = IntKind.u8.wrap ((BitVec.ofInt 8 ((x.toNat % 256 : Nat) : Int) ^^^ BitVec.ofInt 8 (b.toNat : Int)).toNat : Int) := rfl
  rw [show ((x.toNat : Int) % 256) = ((x.toNat % 256 : Nat) : Int) from by omega, h, BitVec.ofInt_natCast, BitVec.ofInt_natCast, BitVec.toNat_xor, BitVec.toNat_ofNat, BitVec.toNat_ofNat, IntKind.wrap_u8, idx_nat]
  have e : (x.toNat ^^^ b.toNat) % 2 ^ 8 = (x.toNat % 2 ^ 8) ^^^ (b.toNat % 2 ^ 8) := Nat.xor_mod_two_pow
  have e2 : x.toNat % 256 % 2 ^ 8 = x.toNat % 2 ^ 8 := by omega
  rw [e2, ← e]
  omega
theorem sh8_num (x : BitVec 32) : (x.toNat : Int) / 256 = ((sh8 x).toNat : Int) := by
  unfold sh8
  rw [BitVec.toNat_ushiftRight, Nat.shiftRight_eq_div_pow]
  omega
theorem eight_tab (x : BitVec 32) (b : UInt8) : ceight (xr x (cbyte b)) = xr (sh8 x) (ceight (BitVec.ofNat 32 (idx x b))) := by
  unfold xr sh8 idx
  rw [ceight_split, BitVec.ushiftRight_xor_distrib, BitVec.ofNat_toNat, BitVec.setWidth_eq]
  have : cbyte b >>> 8 = 0#32 := by
    have hb := b.toNat_lt
    apply BitVec.eq_of_toNat_eq
    rw [BitVec.toNat_ushiftRight, Nat.shiftRight_eq_div_pow]
    simp [cbyte]
    omega
  rw [this]
  simp
theorem tab_cell {w : World} {g : Nat} (hg : w.heap[g]? = some (.cells tabCells 76 (0, 0))) (j : Nat) (hj : j < 256) : w.cell? ⟨g, j, none⟩ = some (.int .u32 ((ceight (BitVec.ofNat 32 j)).toNat : Int)) := by
  rw [blk_cell hg j]
  simp [tabCells, hj, tabv]
theorem tabTo_zero : tabTo 0 = Array.replicate 256 (.int .u32 0) := by
  apply Array.ext
  · simp [tabTo]
  · intro i h1 h2
    simp [tabTo]
theorem run_calls (c : BitVec 32) (g : Nat) (s : ByteArray) (w : World) (hs : s.size ≤ 9223372036854775807) (hg : w.heap[g]? = some (.cells tabCells 76 (0, 0))) :
    Calls Try.prog 54 #[.int .u32 (c.toNat : Int), .pointer (some ⟨g, 0, none⟩), .string s] w fun e w' => e = .returned (.int .u32 ((crun c s.data.toList).toNat : Int)) ∧ Below w.heap.size w w' := by
  have hcv := fun W => print_bytes (P := Try.prog) 9 31 5 Try.underlying9 Try.underlying31 Try.underlying5 s W
  have hxx := xr_bv
  have hb := byte_num
  go_enter Try.func54, Try.ntmps54
  go_wp2
  go_loop [0, 12] (fun x i => ∃ k : Nat, k ≤ s.size ∧ i = .int .i64 k ∧ x = .int .u32 ((crun c (s.data.toList.take k)).toNat : Int)) (fun _ i => s.size - (intOf i).toNat)
  case atStart => exact ⟨0, by omega, rfl, rfl⟩
  case round =>
    obtain ⟨k, hk, rfl, rfl⟩ := hrel
    by_cases hlt : k < s.size
    · have hl : k < s.data.toList.length := by simpa using hlt
      have hc : (Lib.bytesWorld w 5 s).cell? ⟨w.heap.size, k, none⟩ = some (.int .u8 ((s.data.toList[k]).toNat : Int)) := by
        rw [Lib.bytesWorld_cell w 5 s k hlt]
        simp [List.getD_eq_getElem?_getD, List.getElem?_eq_getElem hl]
      have hn := Lib.hid ((crun_take c s.data.toList k hl).trans (eight_tab _ _))
      generalize s.data.toList[k] = b at hc hn
      generalize crun c (s.data.toList.take k) = x at hn
      have hq : (Lib.bytesWorld w 5 s).cell? ⟨g, idx x b, none⟩ = some (.int .u32 ((ceight (BitVec.ofNat 32 (idx x b))).toNat : Int)) :=
        (Lib.bytesWorld_old w 5 s ⟨g, idx x b, none⟩ (blk_lt hg)).trans (tab_cell hg _ (idx_lt x b))
      have hj : idx x b < 256 := idx_lt x b
      have hi := idx_num x b
      have hs8 := sh8_num x
      clear hg
      generalize ceight (BitVec.ofNat 32 (idx x b)) = y at hq hn
      generalize idx x b = j at hq hn hj hi
      go_wp2_with fail
      go_round
      case rel => exact ⟨k + 1, by omega, by go_num, by rw [hn.out]⟩
      case measure => simp [intOf]; omega
    · obtain rfl : k = s.size := by omega
      go_wp2
      go_ret
      exact ⟨by rw [List.take_of_length_le (by simp)]; rfl, bytes_below (Below.refl _ _) (Nat.le_refl _) _ _⟩

theorem tab_zero : (Try.prog.info? 76).map (fun i => (i.zero, i.size)) = some (some (.agg (tabTo 0)), 256) := by kernel_rfl
theorem tab_alloc (W : World) : (zeroValue 76).run Try.prog W = .ok (.agg (tabTo 0)) W := by
  unfold zeroValue typeInfo
  obtain ⟨i, hi, hz⟩ := Option.map_eq_some_iff.1 tab_zero
  simp only [Prod.mk.injEq] at hz
  simp [Sem.run_bind, hi, hz.1]
theorem tab_size : (Try.prog.info? 76).map (·.size) = some 256 := by kernel_rfl
theorem tab_one : tabCells.all (·.oneCell') = true := by
  rw [Array.all_eq_true]
  intro i hi
  simp only [tabCells, Array.getElem_ofFn]
  rfl
theorem steps_at (k : Nat) (hk : k < 256) (w : World) : Calls Try.prog 55 #[.int .u32 (k : Int)] w fun e w' => e = .returned (.int .u32 (tabv k)) ∧ w = w' := by
  have h := steps_calls (BitVec.ofNat 32 k) w
  have e : (BitVec.ofNat 32 k).toNat = k := by simp; omega
  rwa [e] at h
set_option maxRecDepth 100000 in
theorem table_calls (w : World) : Calls Try.prog 53 #[] w fun e w' => e = .returned (.agg tabCells) ∧ Below w.heap.size w w' := by
  have hz := tab_alloc
  go_enter Try.func53, Try.ntmps53
  go_wp2_with fail
  go_loopw [3] (fun i wr => ∃ k : Nat, k ≤ 256 ∧ i = .int .i64 k ∧ wr.heap[w.heap.size + 1]? = some (.cells (tabTo k) 76 (0, 0)) ∧ wr.heap[w.heap.size]? = some (.cells (tabTo 0) 76 (0, 0)) ∧ Below w.heap.size w wr) (fun i _ => 256 - (intOf i).toNat)
  case atStart => exact ⟨0, by omega, rfl, heap_alloc2_new _ _ _, heap_alloc2_old _ _ _, below_alloc (below_alloc (Below.refl _ _) _) _⟩
  case round =>
    obtain ⟨k, hk, rfl, h1, h0, hb⟩ := hrel
    by_cases hlt : k < 256
    · have hc : wr.cell? ⟨w.heap.size + 1, k, none⟩ = some (.int .u32 0) := by
        rw [blk_cell h1 k]; simp [tabTo, hlt]
      have hf : wr.frozen? ⟨w.heap.size + 1, k, none⟩ = false := blk_frozen h1 k
      have H1 := Lib.hid h1
      have H0 := Lib.hid h0
      clear h1 h0
      go_wp2_with (go_at_call 55; refine (steps_at k hlt _).mono ?_; rintro e w' ⟨rfl, rfl⟩)
      go_roundw
      case rel => exact ⟨k + 1, by omega, by go_num, by rw [blk_set H1.out, tabTo_set k hlt], blk_far H0.out (by simp) _, hb.setCell (by simp) _⟩
      case measure => simp [intOf]; omega
    · obtain rfl : k = 256 := by omega
      rw [tabTo_last] at h1
      have hz := hb.size
      have H1 := Lib.hid h1
      have H0 := Lib.hid h0
      clear h1 h0 hz
      go_wp2_with (first | (refine wpList_load_row rfl 76 _ rfl _ rfl 76 tabCells (0, 0) _ H1.out Try.underlying76 rfl (by rw [tabCells_size]; exact tab_size) ?_) | (refine wpList_store_row rfl 76 _ _ rfl _ tabCells rfl rfl 76 _ H0.out (by rw [tabCells_size]; exact tab_size) (by rw [tabCells_size, tabTo_size]) tab_one ?_))
      refine bodyPost_ret (v := .agg tabCells) (results_cell_row rfl _ _ w.heap.size 76 tabCells (0, 0) _ rfl (setRow_heap _ _ _ _ _ _ H0.out) Try.underlying76 rfl (by rw [tabCells_size]; exact tab_size)) rfl ⟨rfl, ?_⟩
      exact hb.trans ⟨rfl, rfl, rfl, by simp, fun i hi => setRow_other _ _ _ _ (by omega)⟩

theorem cat_take (l : List ByteArray) (k : Nat) (h : k < l.length) : cat (l.take (k + 1)) = cat (l.take k) ++ (l[k]).data.toList := by
  rw [List.take_succ_eq_append_getElem h]
  unfold cat
  rw [List.map_append, List.flatten_append]
  simp
theorem at_str {w wr : World} {A : Option Addr} {l : List ByteArray} (h : Kd.C Kd.string w A l.length l) (hb : Below w.heap.size w wr) (k : Nat) (hk : k < l.length) : ∃ ad, A = some ad ∧ wr.cell? (ad.add k) = some (.string l[k]) := by
  obtain ⟨ad, e, hc⟩ := Kd.at_string h (k : Int) (by omega) (by omega)
  refine ⟨ad, e, ?_⟩
  have h2 := (hb.cell (World.block_lt_of_cell? w _ hc)).trans hc
  rw [Int.toNat_natCast] at h2
  rw [h2]
  simp [rdOf, List.getD_eq_getElem?_getD, List.getElem?_eq_getElem hk]
theorem sum_calls (A0 : Option Addr) (c0 : Nat) (l0 : List ByteArray) (w : World) (hr0 : Kd.C Kd.string w A0 l0.length l0) (hc0 : l0.length ≤ c0) (hs : ∀ s ∈ l0, s.size ≤ 9223372036854775807) :
    Calls Try.prog 15 #[.slice A0 l0.length c0] w fun e w' => e = .returned (.int .i64 (crcSum l0)) ∧ Below w.heap.size w w' := by
  have hm : l0.length ≤ 9223372036854775807 := Kd.C_max hr0
  have hx : ∀ c : BitVec 32, bits .xor .u32 (c.toNat : Int) 4294967295 = ((xr c call).toNat : Int) := fun c => xr_bv c call
  have hz := tab_alloc
  have hu := u32_small
  have HR := Aside0.mk hr0
  have HS := Aside0.mk hs
  clear hr0 hs
  go_enter Try.func15, Try.ntmps15
  go_wp2_with fail
  refine (table_calls _).mono ?_
  rintro e w1 ⟨rfl, hb1⟩
  have H1 := Aside0.mk (heap_alloc_new w1 (.cells (tabTo 0) 76 (0, 0)))
  go_wp2_with (refine wpList_store_row rfl 76 _ _ rfl _ tabCells rfl rfl 76 _ H1.out (by rw [tabCells_size]; exact tab_size) (by rw [tabCells_size, tabTo_size]) tab_one ?_)
  have H2 := Aside0.mk (setRow_heap _ _ _ tabCells _ _ H1.out)
  have HB := Aside0.mk ((below_alloc hb1 (.cells (tabTo 0) 76 (0, 0))).trans (b := (w1.alloc (.cells (tabTo 0) 76 (0, 0)))) (c := (w1.alloc (.cells (tabTo 0) 76 (0, 0))).setRow w1.heap.size tabCells) ⟨rfl, rfl, rfl, by simp, fun i hi => setRow_other _ _ _ _ (by have := hb1.size; omega)⟩)
  generalize hw2 : (w1.alloc (.cells (tabTo 0) 76 (0, 0))).setRow w1.heap.size tabCells = w2 at H2 HB
  generalize w1.heap.size = g at H2
  clear H1 hb1 hw2
  go_loopw [4, 10] (fun c i wr => ∃ k : Nat, k ≤ l0.length ∧ i = .int .i64 k ∧ c = .int .u32 ((crun call (cat (l0.take k))).toNat : Int) ∧ Aside0 (wr.heap[g]? = some (.cells tabCells 76 (0, 0))) ∧ Aside0 (Below w.heap.size w wr)) (fun _ i _ => l0.length - (intOf i).toNat)
  case atStart => exact ⟨0, by omega, rfl, rfl, H2, HB⟩
  case round =>
    clear H2 HB
    obtain ⟨k, hk, rfl, rfl, H, HB⟩ := hrel
    by_cases hlt : k < l0.length
    · obtain ⟨ad, e, hcz⟩ := at_str HR.out HB.out k hlt
      cases e
      have hs : (l0[k]).size ≤ 9223372036854775807 := HS.out _ (List.getElem_mem hlt)
      have hn := Aside0.mk ((crun_append call (cat (l0.take k)) (l0[k]).data.toList).symm.trans (by rw [← cat_take l0 k hlt]))
      generalize l0[k] = s at hcz hs hn
      generalize crun call (cat (l0.take k)) = c at hn
      go_wp2_with (go_at_call 54; refine (run_calls _ _ _ _ hs H.out).mono ?_; rintro e w' ⟨rfl, hb'⟩)
      go_roundw
      case rel => exact ⟨k + 1, by omega, by go_num, by rw [← hn.out], ⟨blk_below H.out hb'⟩, ⟨below_then HB.out HB.out.size hb'⟩⟩
      case measure => simp [intOf]; omega
    · obtain rfl : k = l0.length := by omega
      rw [List.take_length]
      go_wp2
      go_ret
      exact ⟨rfl, HB.out⟩
end Go.Proofs.Ythpgppamdejjhaa.G
