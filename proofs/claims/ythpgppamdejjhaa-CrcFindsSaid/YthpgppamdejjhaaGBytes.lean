/- The bytes of a string as a row of its own ('[]byte(s)'), written byte by byte and read back as a string. -/
import Derived.Test.YthpgppamdejjhaaProg
import Derived.WalkKit
import Derived.KernelRfl
import Derived.Below
import Derived.Lib.ConvBytes
import Derived.Lib.Hide
import Derived.Outline
import Derived.Test.YthpgppamdejjhaaWWords
set_option linter.unusedVariables false
set_option linter.unusedSimpArgs false
namespace Go.Proofs.Ythpgppamdejjhaa.G
open Go.RowKit Go.Proofs.YthpgppamdejjhaaW.PrintWords
def byteCells (l : List UInt8) (pad : Nat) : Array Value := (l.map fun b => Value.int .u8 (b.toNat : Int)).toArray ++ Array.replicate pad (.int .u8 0)
/-- Block g holds the bytes l, and zeros behind them. -/
def BRow (w : World) (g : Nat) (l : List UInt8) : Prop := ∃ pad, w.heap[g]? = some (.cells (byteCells l pad) 5 ((byteCells l pad).size, (byteCells l pad).size + 1))
theorem brow_new (w : World) (s : ByteArray) : BRow (Lib.bytesWorld w 5 s) w.heap.size s.data.toList := by
  refine ⟨grownCap w s.size 0 5 - s.size, ?_⟩
  have e : byteCells s.data.toList (grownCap w s.size 0 5 - s.size) = Lib.bytesCells w 5 s := by
    unfold byteCells Lib.bytesCells
    congr 1
    apply Array.ext'
    simp
  rw [e]
  exact Lib.bytesWorld_at_new w 5 s
theorem brow_cell {w : World} {g : Nat} {l : List UInt8} (h : BRow w g l) (j : Nat) (hj : j < l.length) : w.cell? ⟨g, j, none⟩ = some (.int .u8 ((l[j]).toNat : Int)) := by
  obtain ⟨pad, h⟩ := h
  rw [cell_of_row w g j _ _ _ h]
  unfold byteCells
  rw [Array.getElem?_append_left (by simpa using hj)]
  simp [hj]
theorem brow_frozen {w : World} {g : Nat} {l : List UInt8} (h : BRow w g l) (j : Nat) (hj : j < l.length) : w.frozen? ⟨g, j, none⟩ = false := by
  obtain ⟨pad, h⟩ := h
  simp [World.frozen?, h]
  intro h2
  have : (byteCells l pad).size = l.length + pad := by simp [byteCells]
  omega
theorem brow_set {w : World} {g : Nat} {l : List UInt8} (h : BRow w g l) (j : Nat) (hj : j < l.length) (b : UInt8) : BRow (w.setCell ⟨g, j, none⟩ (.int .u8 (b.toNat : Int))) g (l.set j b) := by
  obtain ⟨pad, h⟩ := h
  refine ⟨pad, ?_⟩
  have e : byteCells (l.set j b) pad = (byteCells l pad).setIfInBounds j (.int .u8 (b.toNat : Int)) := by
    unfold byteCells
    apply Array.ext'
    rw [Array.toList_setIfInBounds]
    simp only [Array.toList_append, List.map_set]
    rw [List.set_append_left _ _ (by simpa using hj)]
  have e2 : (byteCells (l.set j b) pad).size = (byteCells l pad).size := by rw [e]; simp
  rw [e2, e]
  have hlt : g < w.heap.size := blk_lt h
  have hv : w.heap[g] = .cells (byteCells l pad) 5 ((byteCells l pad).size, (byteCells l pad).size + 1) := (Array.getElem?_eq_some_iff.1 h).2
  simp only [World.setCell]
  rw [Array.getElem?_eq_getElem (by simpa using hlt), Array.getElem_modify]
  simp [hv]
theorem brow_far {w : World} {g : Nat} {l : List UInt8} (h : BRow w g l) {w' : World} (hb : Below w.heap.size w w') : BRow w' g l := by
  obtain ⟨pad, h⟩ := h
  exact ⟨pad, blk_below h hb⟩
theorem brow_drew {w : World} {g : Nat} {l : List UInt8} (h : BRow w g l) : BRow w.drew g l := h
theorem brow_lt {w : World} {g : Nat} {l : List UInt8} (h : BRow w g l) : g < w.heap.size := by
  obtain ⟨pad, h⟩ := h
  exact blk_lt h
def toStr (l : List UInt8) : ByteArray := ⟨l.toArray⟩
theorem toStr_list (l : List UInt8) : (toStr l).data.toList = l := by simp [toStr]
theorem toStr_size (l : List UInt8) : (toStr l).size = l.length := by simp [toStr, ByteArray.size]
theorem toStr_back (s : ByteArray) : toStr s.data.toList = s := by
  ext1
  simp [toStr]
theorem brow_reads {w : World} {g : Nat} {l : List UInt8} (h : BRow w g l) (hl : l.length ≤ 9223372036854775807) : ReadsInt w .u8 (some ⟨g, 0, none⟩) l.length (bytesOf (toStr l)) := by
  refine ⟨by rw [bytesOf_length, toStr_size], hl, fun _ => ⟨_, rfl, fun j hj => ?_⟩⟩
  rw [add_plain, brow_cell h j hj]
  simp [bytesOf, toStr, hj]
/-- 'string(b)' of such a row. -/
theorem brow_string {P : Program} (src dst e' : TypeId) (hs : P.underlying src = some (.slice e')) (he : P.underlying e' = some (.int .u8)) (hd : P.underlying dst = some .string) {w : World} {g c : Nat} {l : List UInt8} (h : BRow w g l) (hl : l.length ≤ 9223372036854775807) :
    (convert src dst (.slice (some ⟨g, 0, none⟩) l.length c)).run P w = .ok (.string (toStr l)) w := by
  rw [string_of_reads hs he hd (brow_reads h hl)]
  congr 2
  unfold strOfNums bytesOf toStr
  simp only [List.map_map]
  congr 2
  have : ((fun n : Int => UInt8.ofNat n.toNat) ∘ fun b : UInt8 => ((b.toNat : Nat) : Int)) = id := by
    funext b
    simp
  rw [this, List.map_id]
end Go.Proofs.Ythpgppamdejjhaa.G
