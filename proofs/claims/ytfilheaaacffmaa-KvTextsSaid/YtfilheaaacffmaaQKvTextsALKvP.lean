/- Pairs, in plain Lean: one put among others that stand in their order. -/
import Derived.Test.YtfilheaaacffmaaQKvTextsALKv6
set_option linter.unusedSimpArgs false
set_option linter.unusedVariables false
namespace Go.Proofs.Ytfilheaaacffmaa.AL
open Go Go.Proofs
theorem less_tot : ∀ a b : List UInt8, less a b = false → a ≠ b → less b a = true
  | [], [], _, h => absurd rfl h
  | [], _ :: _, h, _ => by unfold less at h; simp [Op.bytesLess] at h
  | _ :: _, [], _, _ => rfl
  | x :: a, y :: b, h, hne => by
    have ih := less_tot a b
    unfold less at *
    simp only [Op.bytesLess, Bool.or_eq_false_iff, decide_eq_false_iff_not, Bool.and_eq_false_iff, Bool.or_eq_true, Bool.and_eq_true, decide_eq_true_eq, beq_iff_eq, beq_eq_false_iff_ne] at h ⊢
    obtain ⟨h1, h2⟩ := h
    by_cases he : x = y
    · subst he
      refine .inr ⟨rfl, ih ?_ (fun e => hne (by rw [e]))⟩
      rcases h2 with h2 | h2
      · exact absurd rfl h2
      · exact h2
    · refine .inl ?_
      rcases UInt8.lt_or_lt_of_ne he with q | q
      · exact absurd q h1
      · exact q
def RK (p q : List UInt8 × List UInt8) : Prop := less p.1 q.1 = true
theorem putP_mem : ∀ {l : List (List UInt8 × List UInt8)} {p x : List UInt8 × List UInt8}, x ∈ putP l p → x = p ∨ x ∈ l
  | [], p, x, h => by
    rw [putP, List.mem_singleton] at h
    exact .inl h
  | q :: l, p, x, h => by
    rw [putP] at h
    split at h
    · rcases List.mem_cons.1 h with e | e
      · exact .inr (by rw [e]; exact List.mem_cons_self)
      · rcases putP_mem e with e | e
        · exact .inl e
        · exact .inr (List.mem_cons_of_mem _ e)
    · rcases List.mem_cons.1 h with e | e
      · exact .inl e
      · exact .inr (List.mem_filter.1 e).1
theorem putP_sorted : ∀ {l : List (List UInt8 × List UInt8)} {p : List UInt8 × List UInt8}, l.Pairwise RK → (putP l p).Pairwise RK
  | [], p, _ => List.pairwise_singleton _ _
  | q :: l, p, h => by
    obtain ⟨h1, h2⟩ := List.pairwise_cons.1 h
    rw [putP]
    split
    · rename_i hb
      refine List.pairwise_cons.2 ⟨fun x hx => ?_, putP_sorted h2⟩
      rcases putP_mem hx with rfl | e
      · exact hb
      · exact h1 x e
    · rename_i hb
      rw [Bool.not_eq_true] at hb
      refine List.pairwise_cons.2 ⟨fun x hx => ?_, h.filter _⟩
      obtain ⟨hx1, hx2⟩ := List.mem_filter.1 hx
      unfold notK at hx2
      have hx2 : ¬ x.1 = p.1 := by simpa using hx2
      rcases List.mem_cons.1 hx1 with rfl | e
      · exact less_tot _ _ hb hx2
      · have hqx := h1 x e
        by_cases he : q.1 = p.1
        · unfold RK at hqx ⊢
          rw [← he]
          exact hqx
        · exact less_trans (less_tot _ _ hb he) hqx
theorem filter_all {l : List (List UInt8 × List UInt8)} {k : List UInt8} (h : ∀ x ∈ l, less k x.1 = true) : l.filter (notK k) = l := by
  rw [List.filter_eq_self]
  intro x hx
  have := h x hx
  unfold notK
  simp only [Bool.not_eq_true', decide_eq_false_iff_not]
  intro e
  rw [e, less_irr] at this
  cases this
theorem putP_at : ∀ (l : List (List UInt8 × List UInt8)) (p : List UInt8 × List UInt8) (a : Nat), l.Pairwise RK → a ≤ l.length → (∀ i, i < a → less (l.getD i ([], [])).1 p.1 = true) → (∀ i, a ≤ i → i < l.length → less (l.getD i ([], [])).1 p.1 = false) →
    putP l p = if a < l.length ∧ (l.getD a ([], [])).1 = p.1 then l.take a ++ [p] ++ l.drop (a + 1) else l.take a ++ [p] ++ l.drop a
  | [], p, a, _, ha, _, _ => by
    have : a = 0 := by simpa using ha
    subst this
    rfl
  | q :: l, p, 0, hs, _, _, hhi => by
    obtain ⟨h1, h2⟩ := List.pairwise_cons.1 hs
    have hb : less q.1 p.1 = false := hhi 0 (Nat.le_refl _) (by simp)
    rw [putP, hb, if_neg Bool.false_ne_true, List.filter_cons]
    by_cases he : q.1 = p.1
    · have hk : notK p.1 q = false := by unfold notK; rw [decide_eq_true he]; rfl
      rw [hk, if_neg Bool.false_ne_true, if_pos ⟨by simp, he⟩, filter_all (fun x hx => by have := h1 x hx; unfold RK at this; rw [← he]; exact this)]
      rfl
    · have hk : notK p.1 q = true := by unfold notK; rw [decide_eq_false he]; rfl
      rw [hk, if_pos rfl, if_neg (fun q2 => he q2.2), filter_all (fun x hx => less_trans (less_tot _ _ hb he) (h1 x hx))]
      rfl
  | q :: l, p, a + 1, hs, ha, hlo, hhi => by
    obtain ⟨h1, h2⟩ := List.pairwise_cons.1 hs
    have hb : less q.1 p.1 = true := hlo 0 (by omega)
    rw [putP, hb, if_pos rfl, putP_at l p a h2 (by simpa using ha) (fun i hi => hlo (i + 1) (by omega)) (fun i hi hi2 => hhi (i + 1) (by omega) (by simpa using hi2))]
    have e1 : (a < l.length ∧ (l.getD a ([], [])).1 = p.1) ↔ (a + 1 < (q :: l).length ∧ ((q :: l).getD (a + 1) ([], [])).1 = p.1) := by simp
    by_cases hc : a < l.length ∧ (l.getD a ([], [])).1 = p.1
    · rw [if_pos hc, if_pos (e1.1 hc)]
      rfl
    · rw [if_neg hc, if_neg (fun x => hc (e1.2 x))]
      rfl
theorem sortK_of {l : List (List UInt8 × List UInt8)} (h : l.Pairwise RK) : sortK l := fun i j hij hj => by
  have := List.pairwise_iff_getElem.1 h i j (by omega) hj hij
  unfold RK at this
  rw [List.getD_eq_getElem?_getD, List.getD_eq_getElem?_getD, List.getElem?_eq_getElem (show i < l.length by omega), List.getElem?_eq_getElem hj]
  exact this
theorem right_sorted {l : List (List UInt8 × List UInt8)} (h : rightP l = true) : l.Pairwise RK := by
  rw [List.pairwise_iff_getElem]
  intro i j hi hj hij
  have step : ∀ j, j + 1 < l.length → less (l.getD j ([], [])).1 (l.getD (j + 1) ([], [])).1 = true := fun j hj => by
    have := List.all_eq_true.1 h (j + 1) (List.mem_range.2 hj)
    unfold okAt at this
    rw [Bool.and_eq_true, decide_eq_false (Nat.succ_ne_zero j), Bool.false_or] at this
    exact this.2
  have all : ∀ d, i + d + 1 < l.length → less (l.getD i ([], [])).1 (l.getD (i + d + 1) ([], [])).1 = true := by
    intro d
    induction d with
    | zero => exact step i
    | succ d ih => exact fun hd => less_trans (ih (by omega)) (step (i + d + 1) hd)
  have := all (j - i - 1) (by omega)
  rw [show i + (j - i - 1) + 1 = j by omega, List.getD_eq_getElem?_getD, List.getD_eq_getElem?_getD, List.getElem?_eq_getElem hi, List.getElem?_eq_getElem hj] at this
  exact this
theorem putP_len : ∀ (l : List (List UInt8 × List UInt8)) (p : List UInt8 × List UInt8), (putP l p).length ≤ l.length + 1
  | [], p => Nat.le_refl _
  | q :: l, p => by
    rw [putP]
    split
    · have := putP_len l p
      simp only [List.length_cons]
      omega
    · have := List.length_filter_le (notK p.1) (q :: l)
      simp only [List.length_cons] at this ⊢
      omega
end Go.Proofs.Ytfilheaaacffmaa.AL

