/- Programming sets no bit, erasing clears none. -/
import Derived.Test.YtblflecalomgfaaALNor12
set_option linter.unusedSimpArgs false
set_option linter.unusedVariables false
set_option maxRecDepth 100000
namespace Go.Proofs.Ytblflecalomgfaa.AL
open Go Go.Proofs
theorem doC_get (x : Chp) (i n : Nat) (f : Nat → UInt8 → UInt8) (g : Nat → UInt8 → UInt8 → UInt8) (h : i + n ≤ x.l.length) (j : Nat) :
    (x.doC i n f g).l.getD j 0 = x.l.getD j 0 ∨ ((i ≤ j ∧ j < i + n) ∧ ((x.doC i n f g).l.getD j 0 = f (j - i) (x.l.getD j 0) ∨ ∃ t, (x.doC i n f g).l.getD j 0 = g (j - i) (x.l.getD j 0) t)) := by
  unfold Chp.doC
  split
  · split
    · rw [blow_l]; exact .inl rfl
    · show (mapAt i _ x.l n).getD j 0 = _ ∨ _ ∧ ((mapAt i _ x.l n).getD j 0 = _ ∨ ∃ t, (mapAt i _ x.l n).getD j 0 = _)
      rw [mapAt_get _ _ _ _ _ h]
      split
      · rename_i hj; exact .inr ⟨hj, .inr ⟨_, rfl⟩⟩
      · exact .inl rfl
  · show (mapAt i _ x.l n).getD j 0 = _ ∨ _ ∧ ((mapAt i _ x.l n).getD j 0 = _ ∨ ∃ t, (mapAt i _ x.l n).getD j 0 = _)
    rw [mapAt_get _ _ _ _ _ h]
    split
    · rename_i hj; exact .inr ⟨hj, .inl rfl⟩
    · exact .inl rfl
theorem and_idem (a b : UInt8) : (a &&& b) &&& a = a &&& b := by
  rw [UInt8.and_comm (a &&& b) a, ← UInt8.and_assoc, UInt8.and_self]
theorem or_absorb (a b : UInt8) : (a ||| b) &&& a = a := by
  apply UInt8.toNat_inj.1
  rw [UInt8.toNat_and, UInt8.toNat_or]
  apply Nat.eq_of_testBit_eq
  intro k
  rw [Nat.testBit_and, Nat.testBit_or]
  cases a.toNat.testBit k <;> cases b.toNat.testBit k <;> rfl
theorem prog_get (x : Chp) (hl : x.l.length = 24576) (at_ : Int) (s : List UInt8) (j : Nat) :
    (x.prog at_ s).1.l.getD j 0 = x.l.getD j 0 ∨ ((at_ ≤ j ∧ (j : Int) < at_ + s.length) ∧ (x.prog at_ s).1.l.getD j 0 &&& x.l.getD j 0 = (x.prog at_ s).1.l.getD j 0) := by
  unfold Chp.prog
  split
  · split
    · exact .inl rfl
    · split
      · rename_i h4
        unfold hasN at h4
        simp only [decide_eq_true_eq] at h4
        split
        · exact .inl rfl
        · rcases doC_get x at_.toNat s.length (prF s) (prG s) (by omega) j with h | ⟨h, h2 | ⟨t, h2⟩⟩
          · exact .inl h
          · refine .inr ⟨by omega, ?_⟩
            show (x.doC _ _ _ _).l.getD j 0 &&& _ = (x.doC _ _ _ _).l.getD j 0
            rw [h2]
            exact and_idem _ _
          · refine .inr ⟨by omega, ?_⟩
            show (x.doC _ _ _ _).l.getD j 0 &&& _ = (x.doC _ _ _ _).l.getD j 0
            rw [h2]
            exact and_idem _ _
      · exact .inl rfl
  · exact .inl rfl
theorem erase_get (x : Chp) (hl : x.l.length = 24576) (s : Int) (j : Nat) :
    (x.erase s).1.l.getD j 0 = x.l.getD j 0 ∨ ((((j / 512 : Nat) : Int) = s) ∧ (x.erase s).1.l.getD j 0 &&& x.l.getD j 0 = x.l.getD j 0) := by
  unfold Chp.erase
  split
  · split
    · exact .inl rfl
    · rcases doC_get x (s.toNat * 512) 512 erF erG (by omega) j with h | ⟨h, h2 | ⟨t, h2⟩⟩
      · exact .inl h
      · refine .inr ⟨by omega, ?_⟩
        show (x.doC _ _ _ _).l.getD j 0 &&& _ = _
        rw [h2]
        show 255 &&& _ = _
        apply UInt8.toNat_inj.1
        rw [UInt8.toNat_and]
        have := (x.l.getD j 0).toNat_lt
        show 255 &&& _ = _
        rw [Nat.and_comm]
        exact Nat.and_two_pow_sub_one_of_lt_two_pow (n := 8) this
      · refine .inr ⟨by omega, ?_⟩
        show (x.doC _ _ _ _).l.getD j 0 &&& _ = _
        rw [h2]
        exact or_absorb _ _
  · exact .inl rfl
theorem and_trans {x y z : UInt8} (h1 : y &&& x = y) (h2 : z &&& y = z) : z &&& x = z := by
  rw [← h2, UInt8.and_assoc, h1]
theorem wr_get : ∀ (m : Nat) (s : List UInt8) (x : Chp) (i : Nat), s.length ≤ m → x.l.length = 24576 → ∀ j, (x.wr i s).1.l.getD j 0 = x.l.getD j 0 ∨ ((i ≤ j ∧ j < i + s.length) ∧ (x.wr i s).1.l.getD j 0 &&& x.l.getD j 0 = (x.wr i s).1.l.getD j 0)
  | 0, s, x, i, hm, hl, j => by
    have hs : s = [] := List.eq_nil_of_length_eq_zero (by omega)
    subst hs
    rw [Chp.wr, dif_pos rfl]
    exact .inl rfl
  | m + 1, s, x, i, hm, hl, j => by
    by_cases hs : s = []
    · subst hs
      rw [Chp.wr, dif_pos rfl]
      exact .inl rfl
    · have hp := page_pos i hs
      have hp2 : page i s ≤ s.length := Nat.min_le_left _ _
      rw [Chp.wr, dif_neg hs]
      generalize page i s = n at *
      have htl : (s.take n).length = n := by simp; omega
      have h1 := prog_get x hl (i : Int) (s.take n) j
      have h2 := prog_len x (i : Int) (s.take n)
      generalize x.prog (i : Int) (s.take n) = q at *
      rw [htl] at h1
      split
      · have h3 := wr_get m (s.drop n) q.1 (i + n) (by simp; omega) (by omega) j
        simp only [List.length_drop] at h3
        rcases h3 with h3 | ⟨h3, h4⟩
        · rw [h3]
          rcases h1 with h1 | ⟨h1, h5⟩
          · exact .inl h1
          · exact .inr ⟨by omega, h5⟩
        · refine .inr ⟨by omega, ?_⟩
          rcases h1 with h1 | ⟨h1, h5⟩
          · rw [← h1]; exact h4
          · exact and_trans h5 h4
      · rcases h1 with h1 | ⟨h1, h5⟩
        · exact .inl h1
        · exact .inr ⟨by omega, h5⟩
theorem wr_len : ∀ (m : Nat) (s : List UInt8) (x : Chp) (i : Nat), s.length ≤ m → (x.wr i s).1.l.length = x.l.length
  | 0, s, x, i, hm => by
    have hs : s = [] := List.eq_nil_of_length_eq_zero (by omega)
    subst hs
    rw [Chp.wr, dif_pos rfl]
  | m + 1, s, x, i, hm => by
    by_cases hs : s = []
    · subst hs
      rw [Chp.wr, dif_pos rfl]
    · have hp := page_pos i hs
      have hp2 : page i s ≤ s.length := Nat.min_le_left _ _
      rw [Chp.wr, dif_neg hs]
      split
      · rw [wr_len m _ _ _ (by simp; omega), prog_len]
      · exact prog_len _ _ _
theorem act_len (x : Chp) (a : Act) : (x.act a).1.l.length = x.l.length := by
  unfold Chp.act
  repeat' split
  all_goals first | rfl | exact erase_len _ _ | exact prog_len _ _ _ | skip
  unfold Chp.write
  repeat' split
  all_goals first | rfl | exact wr_len _ _ _ _ (Nat.le_refl _)
/-- With the power off, or with other acts, nothing changes. -/
theorem act_same (x : Chp) (a : Act) (h : x.on = false ∨ a.kind < 1 ∨ 3 < a.kind) : (x.act a).1.l = x.l := by
  unfold Chp.act
  rcases h with h | h
  · unfold Chp.erase Chp.prog Chp.write
    rw [h]
    repeat' split
    all_goals first | rfl | contradiction
  · rw [if_neg (by omega), if_neg (by omega), if_neg (by omega)]
    repeat' split
    all_goals rfl
end Go.Proofs.Ytblflecalomgfaa.AL
