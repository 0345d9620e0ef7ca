/- One element put into a slice of one's own: memory, step by step. -/
import Derived.Test.YtfilheaaacffmaaQKvTextsALCap
import Derived.Test.YtfilheaaacffmaaQKvTextsALA4
import Derived.Test.YtfilheaaacffmaaProg
import Derived.Lib.Overlaps
import Derived.KernelRfl
set_option linter.unusedSimpArgs false
set_option linter.unusedVariables false
set_option maxRecDepth 100000
set_option maxHeartbeats 16000000
namespace Go.Proofs.Ytfilheaaacffmaa.AL
open Go Go.Proofs
section
variable {H : AHeap} {e : TypeId} {gen id idv n cap sz b i : Nat} {C ycs : List AV}
theorem ins_cells (hv : H.get idv = some (.row e 0 ycs)) (hy : ycs.length = sz) : acells (hp H []) sz (.wr idv 0 0 1 sz) = some (1, ycs) := by
  rw [hp_nil]
  simp only [acells, if_true, hv]
  rw [if_pos ⟨trivial, by omega⟩, List.drop_zero, Nat.one_mul, List.take_of_length_le (Nat.le_of_eq hy)]
theorem ins_room (hg : H.get id = some (.row e gen C)) (hv : H.get idv = some (.row e 0 ycs)) (hy : ycs.length = sz) (h1 : ycs.all AV.one = true) (hC : cap * sz ≤ C.length) (hn : n + 1 ≤ cap) (hb : (n + 1) * b ≤ 140737488355328) :
    aapp e sz b (hp H []) (.wc id gen 0 n cap sz) (.wr idv 0 0 1 sz) = some (.wc id gen 0 (n + 1) cap sz, hp (H.set id (.row e gen (C.take (n * sz) ++ ycs ++ C.drop (n * sz + sz)))) []) := by
  unfold aapp
  rw [ins_cells hv hy]
  simp only [h1, if_true]
  rw [hp_nil, hp_nil, hg]
  simp only
  rw [if_pos ⟨trivial, trivial, trivial, by omega, hb⟩, if_pos hn, Nat.zero_add, hy]
theorem ins_grow (hg : H.get id = some (.row e gen C)) (hv : H.get idv = some (.row e 0 ycs)) (hy : ycs.length = sz) (h1 : ycs.all AV.one = true) (hC : cap * sz ≤ C.length) (hn : ¬ n + 1 ≤ cap) (hold : (C.take (n * sz)).all AV.one = true) (hb : (n + 1) * b ≤ 140737488355328) :
    aapp e sz b (hp H []) (.wc id gen 0 n cap sz) (.wr idv 0 0 1 sz) = some (.wr H.next 0 0 (n + 1) sz, hp (H.push (.row e 0 (C.take (n * sz) ++ ycs))) []) := by
  unfold aapp
  rw [ins_cells hv hy]
  simp only [h1, if_true]
  rw [hp_nil, hp_nil, hg]
  simp only
  rw [if_pos ⟨trivial, trivial, trivial, by omega, hb⟩, if_neg hn, List.drop_zero, if_pos hold]
theorem ins_zeros {z : List AV} {m : Int} (hg : H.get id = some (.row e gen C)) (hC : cap * sz ≤ C.length) (hi : i ≤ n) (hm : m = ((n + 1 - i : Nat) : Int)) (hn : ¬ n + 1 ≤ cap) (hold : (C.take (i * sz)).all AV.one = true) (hb : (n + 1) * b ≤ 140737488355328) :
    aappz e sz b z (hp H []) (.wc id gen 0 i cap sz) (.int .i64 m) = some (.wr H.next 0 0 (n + 1) sz, hp (H.push (.row e 0 (C.take (i * sz) ++ (List.replicate (n + 1 - i) z).flatten))) []) := by
  subst hm
  unfold aappz
  simp only [hp_nil, hg, Int.toNat_natCast]
  have e1 : i + (n + 1 - i) = n + 1 := by omega
  rw [e1, if_pos ⟨trivial, trivial, trivial, by omega, by omega, by omega, hb, by rw [List.drop_zero]; exact hold⟩, List.drop_zero]
/-- The two blocks of two rows do not overlap. -/
theorem overlaps_a {cv cs : List AV} {gv ov nv off len : Nat} {K : AV → AHeap → Prop} (hv : H.get idv = some (.row 94 gv cv)) (hg : H.get id = some (.row 94 gen cs)) (hne : idv ≠ id) (hcv : ov < cv.length) (hcs : 0 < cs.length) (h : K (.bool false) H) :
    (ACalls Try.prog) 155 [.wr idv gv ov nv sz, .wc id gen off len cap sz] H K :=
  acalls_extq h fun g w vs hS hR => by
    obtain ⟨u, v, rfl, r1, r2⟩ := reps_two hR
    obtain ⟨b1, c1, e1, n1, rfl, p1, p2, p3, p4, p5⟩ := r1.wr_inv
    obtain ⟨b2, e2, n2, rfl, q1, q2, q3, q4, q5⟩ := r2.wc_inv
    obtain ⟨b1', cur1, lo1, hi1, s1, s2, s3, s4, s5⟩ := hS.live idv _ hv
    rw [p1] at s1
    obtain rfl := Option.some.inj s1
    obtain ⟨b2', cur2, lo2, hi2, t1, t2, t3, t4, t5⟩ := hS.live id _ hg
    rw [q1] at t1
    obtain rfl := Option.some.inj t1
    have hb : b1 ≠ b2 := fun q => hne (hS.inj idv id _ _ b1 hv hg p1 (by rw [q]; exact q1))
    have hn1 : n1 = cur1.size := by
      unfold World.shape? at p2
      rw [s2] at p2
      simp only [Option.some.injEq, Prod.mk.injEq] at p2
      exact p2.2.symm
    have hn2 : n2 = cur2.size := by
      unfold World.shape? at q2
      rw [t2] at q2
      simp only [Option.some.injEq, Prod.mk.injEq] at q2
      exact q2.2.symm
    have ht : tailN 94 = 1 := by kernel_rfl
    rw [ht] at s3
    have f1 : w.frozen? ⟨b1, ov, none⟩ = false := by
      unfold World.frozen?
      rw [s2]
      have := s3 ov (by omega)
      simpa using fun q => Nat.le_of_not_lt fun q2 => this ⟨q, q2⟩
    have f2 : w.frozen? { block := b1, off := n1 } = false := by
      unfold World.frozen?
      rw [s2]
      have := s3 n1 (by omega)
      simpa using fun q => Nat.le_of_not_lt fun q2 => this ⟨q, q2⟩
    refine ⟨.bool false, ?_, .bool _⟩
    rw [run_callFunc_extern Try.func155 (by kernel_rfl) (by kernel_rfl) (by kernel_rfl) (e := Extern.SlicesOverlaps.overlaps #[84, 84] #[4]) (by kernel_rfl),
      Lib.run_overlaps_apart w 84 4 94 Try.underlying84 2 Try.sizeOf94 ⟨b1, ov, none⟩ ⟨b2, off, none⟩ nv c1 len cap hb e1 e2 n1 n2 p2 q2 (by omega) f1 f2]
    rfl
end
end Go.Proofs.Ytfilheaaacffmaa.AL

