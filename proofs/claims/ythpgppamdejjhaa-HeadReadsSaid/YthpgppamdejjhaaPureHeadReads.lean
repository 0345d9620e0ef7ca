/- HeadReads, without the program: the header of any bytes, or why there is none, is the reference's. -/
import Derived.Test.YthpgppamdejjhaaXHd
import Derived.Test.YthpgppamdejjhaaGNumPure
import Derived.Test.YthpgppamdejjhaaGHeadPure
namespace Go.Proofs.Ythpgppamdejjhaa.Pure
open Go.RowKit Go.Proofs.Ythpgppamdejjhaa.X Go.Proofs.YthpgppamdejjhaaW.PrintWords Go.Proofs.YthpgppamdejjhaaW.PrintLast
open Go.Proofs.Ythpgppamdejjhaa.G (bigTo fromBig)
theorem bigs_mem (n : Nat) : ∀ (s : ByteArray) (x : Int), x ∈ bigs n s → 0 ≤ x ∧ x < 4294967296 := by
  induction n with
  | zero => intro s x h; simp [bigs] at h
  | succ n ih =>
    intro s x h
    rcases List.mem_cons.1 h with h | h
    · have := G.bigTo_range s 4
      subst h
      exact ⟨this.1, this.2⟩
    · exact ih _ _ h
theorem rd_bigs (n : Nat) (s : ByteArray) (i : Int) : i64 (rd (bigs n s) i) := by
  unfold i64 rd
  rw [List.getD_eq_getElem?_getD]
  cases h : (bigs n s)[i.toNat]? with
  | none => simp
  | some x =>
    have := bigs_mem n s x (List.mem_of_getElem? h)
    simp
    omega
theorem j0_eq (k : Nat) (s : ByteArray) (c : Bool) (a b d e f g h : Int) (ha : i64 a) (hb : i64 b) (hd : i64 d) (he : i64 e) :
    head_Read.j0 k s c a b d e f g h = postilionref11_Read.j0 k s c a b d e f g h := by
  cases k with
  | zero => rfl
  | succ k => simp only [head_Read.j0, postilionref11_Read.j0]; rw [pmay a b d e f g h ha hb hd he, rmay a b d e f g h ha hb hd he]
theorem j0_some (k : Nat) (s : ByteArray) (c : Bool) (a b d e f g h : Int) (ha : i64 a) (hb : i64 b) (hd : i64 d) (he : i64 e) :
    ∃ v, postilionref11_Read.j0 (k + 1) s c a b d e f g h = some v := by
  simp only [postilionref11_Read.j0]
  rw [rmay a b d e f g h ha hb hd he, Option.bind_some]
  repeat' split
  all_goals exact ⟨_, rfl⟩
theorem read_both (s : ByteArray) (hs : s.size ≤ 140737488351232) (k : Nat) (hk : 20 ≤ k) : ∃ v, postilionref11_Read.f k s = some v ∧ head_Read.f k s = some v := by
  obtain ⟨m, rfl⟩ : ∃ m, k = m + 1 := ⟨k - 1, by omega⟩
  unfold postilionref11_Read.f head_Read.f
  by_cases h : (s.size : Int) < 40
  · rw [if_pos h, if_pos h]
    exact ⟨_, rfl, rfl⟩
  · have ht : (s.extract 0 40).size = 4 * 10 := by simp; omega
    have hj : ∀ (c : Bool) (i0 i1 i2 i3 : Int) (f g h : Int), head_Read.j0 (m + 1) s c (rd (bigs 10 (s.extract 0 40)) i0) (rd (bigs 10 (s.extract 0 40)) i1) (rd (bigs 10 (s.extract 0 40)) i2) (rd (bigs 10 (s.extract 0 40)) i3) f g h = postilionref11_Read.j0 (m + 1) s c (rd (bigs 10 (s.extract 0 40)) i0) (rd (bigs 10 (s.extract 0 40)) i1) (rd (bigs 10 (s.extract 0 40)) i2) (rd (bigs 10 (s.extract 0 40)) i3) f g h :=
      fun c i0 i1 i2 i3 f g h => j0_eq _ _ _ _ _ _ _ _ _ _ (rd_bigs _ _ _) (rd_bigs _ _ _) (rd_bigs _ _ _) (rd_bigs _ _ _)
    have hv : ∀ (c : Bool) (i0 i1 i2 i3 : Int) (f g h : Int), ∃ v, postilionref11_Read.j0 (m + 1) s c (rd (bigs 10 (s.extract 0 40)) i0) (rd (bigs 10 (s.extract 0 40)) i1) (rd (bigs 10 (s.extract 0 40)) i2) (rd (bigs 10 (s.extract 0 40)) i3) f g h = some v :=
      fun c i0 i1 i2 i3 f g h => j0_some _ _ _ _ _ _ _ _ _ _ (rd_bigs _ _ _) (rd_bigs _ _ _) (rd_bigs _ _ _) (rd_bigs _ _ _)
    rw [if_neg h, if_neg h, pfromBigs _ 10 ht (by omega) (m + 1) (by omega), rfromBigs _ 10 (by omega) ht (by omega) (m + 1) (by omega)]
    simp only [Option.bind_some, hj, bigs_length]
    rw [if_pos (by omega), if_pos (by omega)]
    simp only [show ((10 : Nat) : Int) = 10 from rfl, Int.reduceLT, ↓reduceIte]
    repeat' split
    all_goals first
      | (obtain ⟨v, h⟩ := hv _ _ _ _ _ _ _ _; exact ⟨v, h, h⟩)
theorem awake11 (k : Nat) (hk : 40 ≤ k) : postilionlaw11_awake.f k = some true := by
  have h : postilionlaw11_awake.f 40 = some true := by decide +kernel
  exact at_rounds (fun k => postilionlaw11_awake.mono k) hk h
theorem HeadReads : postilionlaw11_HeadReads.Pure := by
  intro s hs
  refine ⟨60, ?_⟩
  unfold postilionlaw11_HeadReads.f
  split
  · rw [awake11 60 (by omega)]; rfl
  · obtain ⟨v, h1, h2⟩ := read_both s hs 60 (by omega)
    rw [h1, h2]
    simp only [Option.bind_some, beq_self_eq_true, Bool.and_self, if_true]
    rw [awake11 60 (by omega)]; rfl
end Go.Proofs.Ythpgppamdejjhaa.Pure
