/- Spans, in plain Lean: what is joined, and what is free. -/
import Derived.Test.YtdknpnmdjjmapaaQReserveBytesALA4
set_option linter.unusedSimpArgs false
set_option linter.unusedVariables false
namespace Go.Proofs.Ytdknpnmdjjmapaa.AL
open Go Go.Proofs
def mayS (p : Int × Int) : Bool := decide (0 ≤ p.1 ∧ p.1 ≤ 4294967295 ∧ 0 ≤ p.2 ∧ p.2 ≤ 4294967295)
def someS (p : Int × Int) : Bool := mayS p && decide (0 < p.2)
theorem someS_is {p : Int × Int} : someS p = true ↔ 0 ≤ p.1 ∧ p.1 ≤ 4294967295 ∧ 0 < p.2 ∧ p.2 ≤ 4294967295 := by
  unfold someS mayS
  rw [Bool.and_eq_true, decide_eq_true_eq, decide_eq_true_eq]
  constructor
  · rintro ⟨⟨a, b, c, d⟩, e⟩
    exact ⟨a, b, e, d⟩
  · rintro ⟨a, b, c, d⟩
    exact ⟨⟨a, b, Int.le_of_lt c, d⟩, c⟩
def inS (b : Int) (p : Int × Int) : Prop := p.1 ≤ b ∧ b < p.1 + p.2
def covJ (j : List (Int × Int)) (b : Int) : Prop := ∃ p ∈ j, inS b p
def inL (l : List (Int × Int)) (b : Int) : Prop := ∃ p ∈ l, someS p = true ∧ inS b p
def spB (p : Int × Int) : Prop := 0 ≤ p.1 ∧ 0 < p.2 ∧ p.1 + p.2 ≤ 8589934590
def SepJ (j : List (Int × Int)) : Prop := (∀ p ∈ j, spB p) ∧ j.Pairwise (fun p q => p.1 + p.2 < q.1)
theorem cov_nil (b : Int) : ¬ covJ [] b := fun ⟨_, h, _⟩ => nomatch h
theorem cov_cons (p : Int × Int) (j : List (Int × Int)) (b : Int) : covJ (p :: j) b ↔ inS b p ∨ covJ j b := by
  constructor
  · rintro ⟨q, hq, h⟩
    rcases List.mem_cons.1 hq with rfl | e
    · exact .inl h
    · exact .inr ⟨q, e, h⟩
  · rintro (h | ⟨q, hq, h⟩)
    · exact ⟨p, List.mem_cons_self, h⟩
    · exact ⟨q, List.mem_cons_of_mem _ hq, h⟩
theorem cov_app (j k : List (Int × Int)) (b : Int) : covJ (j ++ k) b ↔ covJ j b ∨ covJ k b := by
  constructor
  · rintro ⟨q, hq, h⟩
    rcases List.mem_append.1 hq with e | e
    · exact .inl ⟨q, e, h⟩
    · exact .inr ⟨q, e, h⟩
  · rintro (⟨q, hq, h⟩ | ⟨q, hq, h⟩)
    · exact ⟨q, List.mem_append_left _ hq, h⟩
    · exact ⟨q, List.mem_append_right _ hq, h⟩
theorem cov_one (p : Int × Int) (b : Int) : covJ [p] b ↔ inS b p := by
  rw [cov_cons]
  exact ⟨fun h => h.elim id (fun h => absurd h (cov_nil b)), .inl⟩
theorem sep_nil : SepJ [] := ⟨fun p h => (nomatch h), .nil⟩
theorem sep_unique : ∀ {j k : List (Int × Int)}, SepJ j → SepJ k → (∀ b, covJ j b ↔ covJ k b) → j = k
  | [], [], _, _, _ => rfl
  | [], q :: k, _, hk, h => by
    have hq := hk.1 q List.mem_cons_self
    unfold spB at hq
    exact absurd ((h q.1).2 ⟨q, List.mem_cons_self, by unfold inS; omega⟩) (cov_nil _)
  | p :: j, [], hj, _, h => by
    have hp := hj.1 p List.mem_cons_self
    unfold spB at hp
    exact absurd ((h p.1).1 ⟨p, List.mem_cons_self, by unfold inS; omega⟩) (cov_nil _)
  | p :: j, q :: k, hj, hk, h => by
    obtain ⟨hj1, hj2⟩ := hj
    obtain ⟨hk1, hk2⟩ := hk
    obtain ⟨a1, a2⟩ := List.pairwise_cons.1 hj2
    obtain ⟨b1, b2⟩ := List.pairwise_cons.1 hk2
    have hp := hj1 p List.mem_cons_self
    have hq := hk1 q List.mem_cons_self
    unfold spB at hp hq
    have lowj : ∀ b, covJ (p :: j) b → p.1 ≤ b := fun b hb => by
      rcases (cov_cons p j b).1 hb with e | ⟨x, hx, e⟩
      · exact e.1
      · have := a1 x hx
        have := e.1
        omega
    have lowk : ∀ b, covJ (q :: k) b → q.1 ≤ b := fun b hb => by
      rcases (cov_cons q k b).1 hb with e | ⟨x, hx, e⟩
      · exact e.1
      · have := b1 x hx
        have := e.1
        omega
    have e1 : p.1 = q.1 := by
      have := lowk p.1 ((h p.1).1 ⟨p, List.mem_cons_self, by unfold inS; omega⟩)
      have := lowj q.1 ((h q.1).2 ⟨q, List.mem_cons_self, by unfold inS; omega⟩)
      omega
    have e2 : ¬ p.1 + p.2 < q.1 + q.2 := fun hlt => by
      rcases (cov_cons p j _).1 ((h (p.1 + p.2)).2 ⟨q, List.mem_cons_self, by unfold inS; omega⟩) with e | ⟨x, hx, e⟩
      · unfold inS at e
        omega
      · have := a1 x hx
        unfold inS at e
        omega
    have e3 : ¬ q.1 + q.2 < p.1 + p.2 := fun hlt => by
      rcases (cov_cons q k _).1 ((h (q.1 + q.2)).1 ⟨p, List.mem_cons_self, by unfold inS; omega⟩) with e | ⟨x, hx, e⟩
      · unfold inS at e
        omega
      · have := b1 x hx
        unfold inS at e
        omega
    have e4 : p = q := Prod.ext e1 (by omega)
    subst e4
    congr 1
    refine sep_unique ⟨fun x hx => hj1 x (List.mem_cons_of_mem _ hx), a2⟩ ⟨fun x hx => hk1 x (List.mem_cons_of_mem _ hx), b2⟩ (fun b => ?_)
    have hb := h b
    rw [cov_cons, cov_cons] at hb
    constructor
    · rintro ⟨x, hx, e⟩
      have := a1 x hx
      rcases hb.1 (.inr ⟨x, hx, e⟩) with q | q
      · unfold inS at q e
        omega
      · exact q
    · rintro ⟨x, hx, e⟩
      have := b1 x hx
      rcases hb.2 (.inr ⟨x, hx, e⟩) with q | q
      · unfold inS at q e
        omega
      · exact q
theorem sep_push {j : List (Int × Int)} {x : Int × Int} (hj : SepJ j) (hx : spB x) (h : ∀ p ∈ j, p.1 + p.2 < x.1) : SepJ (j ++ [x]) := by
  refine ⟨fun p hp => ?_, List.pairwise_append.2 ⟨hj.2, List.pairwise_singleton _ _, fun p hp q hq => ?_⟩⟩
  · rcases List.mem_append.1 hp with e | e
    · exact hj.1 p e
    · rw [List.mem_singleton] at e
      rw [e]
      exact hx
  · rw [List.mem_singleton] at hq
    rw [hq]
    exact h p hp
theorem sep_last {j : List (Int × Int)} {q : Int × Int} (hj : SepJ (j ++ [q])) : SepJ j ∧ spB q ∧ ∀ p ∈ j, p.1 + p.2 < q.1 := by
  obtain ⟨h1, h2⟩ := hj
  obtain ⟨a, _, c⟩ := List.pairwise_append.1 h2
  exact ⟨⟨fun p hp => h1 p (List.mem_append_left _ hp), a⟩, h1 q (by simp), fun p hp => c p hp q (by simp)⟩
theorem sep_all {j : List (Int × Int)} {q p : Int × Int} (hj : SepJ (j ++ [q])) (hp : p ∈ j ++ [q]) : p.1 + p.2 ≤ q.1 + q.2 := by
  obtain ⟨h1, h2, h3⟩ := sep_last hj
  rcases List.mem_append.1 hp with e | e
  · have := h3 p e
    unfold spB at h2
    omega
  · rw [List.mem_singleton] at e
    rw [e]
    exact Int.le_refl _
theorem inL_app (l m : List (Int × Int)) (b : Int) : inL (l ++ m) b ↔ inL l b ∨ inL m b := by
  constructor
  · rintro ⟨q, hq, h⟩
    rcases List.mem_append.1 hq with e | e
    · exact .inl ⟨q, e, h⟩
    · exact .inr ⟨q, e, h⟩
  · rintro (⟨q, hq, h⟩ | ⟨q, hq, h⟩)
    · exact ⟨q, List.mem_append_left _ hq, h⟩
    · exact ⟨q, List.mem_append_right _ hq, h⟩
theorem someS_b {p : Int × Int} (h : someS p = true) : spB p := by
  have := someS_is.1 h
  unfold spB
  omega
/-! ### joined by the program: one by one, in their order -/
structure MInv (done out : List (Int × Int)) : Prop where
  sep : SepJ out
  cov : ∀ b, covJ out b ↔ covJ done b
  last : ∀ o q, out = o ++ [q] → ∃ p ∈ done, q.1 = p.1
theorem m_start : MInv [] [] := ⟨sep_nil, fun _ => Iff.rfl, fun o q h => by simp at h⟩
theorem m_first {done : List (Int × Int)} {x : Int × Int} (h : MInv done []) (hx : spB x) : MInv (done ++ [x]) [x] :=
  ⟨by simpa using sep_push sep_nil hx (fun p hp => nomatch hp), fun b => by
    rw [cov_app, cov_one, ← h.cov b]
    exact ⟨.inr, fun q => q.elim (fun q => absurd q (cov_nil b)) id⟩, fun o q e => by
    have e2 : o = [] ∧ q = x := by
      cases o with
      | nil => simpa using e.symm
      | cons a o => simp at e
    exact ⟨x, by simp, by rw [e2.2]⟩⟩
theorem m_push {done o : List (Int × Int)} {q x : Int × Int} (h : MInv done (o ++ [q])) (hx : spB x) (hlt : q.1 + q.2 < x.1) : MInv (done ++ [x]) (o ++ [q] ++ [x]) :=
  ⟨sep_push h.sep hx (fun p hp => by have := sep_all h.sep hp; omega), fun b => by
    rw [cov_app, cov_app done, h.cov b], fun o2 q2 e => by
    have := List.append_inj_right' e rfl
    simp at this
    exact ⟨x, by simp, by rw [this]⟩⟩
theorem m_join {done o : List (Int × Int)} {q x : Int × Int} (h : MInv done (o ++ [q])) (hx : spB x) (hord : ∀ p ∈ done, p.1 ≤ x.1) (hle : x.1 ≤ q.1 + q.2) : MInv (done ++ [x]) (o ++ [(q.1, max (q.1 + q.2) (x.1 + x.2) - q.1)]) := by
  obtain ⟨s1, s2, s3⟩ := sep_last h.sep
  obtain ⟨p0, hp0, e0⟩ := h.last o q rfl
  have hq := hord p0 hp0
  unfold spB at s2 hx
  refine ⟨sep_push s1 (by unfold spB; simp only; omega) (fun p hp => by have := s3 p hp; exact this), fun b => ?_, fun o2 q2 e => ?_⟩
  · have hc := h.cov b
    rw [cov_app, cov_one] at hc
    rw [cov_app, cov_app, cov_one, cov_one, ← hc]
    unfold inS
    simp only
    constructor
    · rintro (e | e)
      · exact .inl (.inl e)
      · by_cases hb : b < q.1 + q.2
        · exact .inl (.inr ⟨e.1, hb⟩)
        · exact .inr (by omega)
    · rintro ((e | e) | e)
      · exact .inl e
      · exact .inr (by omega)
      · exact .inr (by omega)
  · have := List.append_inj_right' e rfl
    simp at this
    exact ⟨p0, by simp [hp0], by rw [← this]; exact e0⟩
/-! ### joined by the document: each run from where it begins up to its end -/
theorem snoc_ind {α : Type} {P : List α → Prop} (h0 : P []) (h1 : ∀ l x, P l → P (l ++ [x])) (l : List α) : P l := by
  have : ∀ l : List α, P l.reverse := by
    intro l
    induction l with
    | nil => exact h0
    | cons x l ih =>
      rw [List.reverse_cons]
      exact h1 _ _ ih
  have h := this l.reverse
  rwa [List.reverse_reverse] at h
end Go.Proofs.Ytdknpnmdjjmapaa.AL

