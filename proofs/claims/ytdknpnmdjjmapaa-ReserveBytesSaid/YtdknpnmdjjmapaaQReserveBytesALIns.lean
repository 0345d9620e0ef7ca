/- One element put into a slice of one's own: memory, step by step. -/
import Derived.Test.YtdknpnmdjjmapaaQReserveBytesALCap
import Derived.Test.YtdknpnmdjjmapaaQReserveBytesALA4
import Derived.Test.YtdknpnmdjjmapaaProg
import Derived.Lib.Overlaps
import Derived.KernelRfl
set_option linter.unusedSimpArgs false
set_option linter.unusedVariables false
set_option maxRecDepth 100000
set_option maxHeartbeats 16000000
namespace Go.Proofs.Ytdknpnmdjjmapaa.AL
open Go Go.Proofs
section
variable {H : AHeap} {e : TypeId} {gen id idv n cap sz b i : Nat} {C ycs : List AV}
theorem ins_cells (hv : H.get idv = some (.row e 0 ycs)) (hy : ycs.length = sz) : acells (hp H []) sz (.wr idv 0 0 1 sz) = some (1, ycs) := by
  rw [hp_nil]
  simp only [acells, if_true, hv]
  rw [if_pos ⟨trivial, by omega⟩, List.drop_zero, Nat.one_mul, List.take_of_length_le (Nat.le_of_eq hy)]
theorem ins_room (hg : H.get id = some (.row e gen C)) (hv : H.get idv = some (.row e 0 ycs)) (hy : ycs.length = sz) (h1 : ycs.all AV.one = true) (hC : cap * sz ≤ C.length) (hn : n + 1 ≤ cap) (hb : (n + 1) * b ≤ 140737488355328) :
    aapp e sz b (hp H []) (.wc id gen 0 n cap sz) (.wr idv 0 0 1 sz) = some (.wc id gen 0 (n + 1) cap sz, hp (H.set id (.row e gen (C.take (n * sz) ++ ycs ++ C.drop (n * sz + sz)))) []) := by
  unfold aapp
  rw [ins_cells hv hy]
  simp only [h1, if_true]
  rw [hp_nil, hp_nil, hg]
  simp only
  rw [if_pos ⟨trivial, trivial, trivial, by omega, hb⟩, if_pos hn, Nat.zero_add, hy]
theorem ins_grow (hg : H.get id = some (.row e gen C)) (hv : H.get idv = some (.row e 0 ycs)) (hy : ycs.length = sz) (h1 : ycs.all AV.one = true) (hC : cap * sz ≤ C.length) (hn : ¬ n + 1 ≤ cap) (hold : (C.take (n * sz)).all AV.one = true) (hb : (n + 1) * b ≤ 140737488355328) :
    aapp e sz b (hp H []) (.wc id gen 0 n cap sz) (.wr idv 0 0 1 sz) = some (.wr H.next 0 0 (n + 1) sz, hp (H.push (.row e 0 (C.take (n * sz) ++ ycs))) []) := by
  unfold aapp
  rw [ins_cells hv hy]
  simp only [h1, if_true]
  rw [hp_nil, hp_nil, hg]
  simp only
  rw [if_pos ⟨trivial, trivial, trivial, by omega, hb⟩, if_neg hn, List.drop_zero, if_pos hold]
theorem ins_zeros {z : List AV} {m : Int} (hg : H.get id = some (.row e gen C)) (hC : cap * sz ≤ C.length) (hi : i ≤ n) (hm : m = ((n + 1 - i : Nat) : Int)) (hn : ¬ n + 1 ≤ cap) (hold : (C.take (i * sz)).all AV.one = true) (hb : (n + 1) * b ≤ 140737488355328) :
    aappz e sz b z (hp H []) (.wc id gen 0 i cap sz) (.int .i64 m) = some (.wr H.next 0 0 (n + 1) sz, hp (H.push (.row e 0 (C.take (i * sz) ++ (List.replicate (n + 1 - i) z).flatten))) []) := by
  subst hm
  unfold aappz
  simp only [hp_nil, hg, Int.toNat_natCast]
  have e1 : i + (n + 1 - i) = n + 1 := by omega
  rw [e1, if_pos ⟨trivial, trivial, trivial, by omega, by omega, by omega, hb, by rw [List.drop_zero]; exact hold⟩, List.drop_zero]
end
end Go.Proofs.Ytdknpnmdjjmapaa.AL

