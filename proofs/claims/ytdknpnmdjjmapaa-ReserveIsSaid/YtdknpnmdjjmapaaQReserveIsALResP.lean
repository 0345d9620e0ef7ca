/- Spans, in plain Lean: what is joined, and what is free. -/
import Derived.Test.YtdknpnmdjjmapaaQReserveIsALA4
set_option linter.unusedSimpArgs false
set_option linter.unusedVariables false
namespace Go.Proofs.Ytdknpnmdjjmapaa.AL
open Go Go.Proofs
def mayS (p : Int × Int) : Bool := decide (0 ≤ p.1 ∧ p.1 ≤ 4294967295 ∧ 0 ≤ p.2 ∧ p.2 ≤ 4294967295)
def someS (p : Int × Int) : Bool := mayS p && decide (0 < p.2)
theorem someS_is {p : Int × Int} : someS p = true ↔ 0 ≤ p.1 ∧ p.1 ≤ 4294967295 ∧ 0 < p.2 ∧ p.2 ≤ 4294967295 := by
  unfold someS mayS
  rw [Bool.and_eq_true, decide_eq_true_eq, decide_eq_true_eq]
  constructor
  · rintro ⟨⟨a, b, c, d⟩, e⟩
    exact ⟨a, b, e, d⟩
  · rintro ⟨a, b, c, d⟩
    exact ⟨⟨a, b, Int.le_of_lt c, d⟩, c⟩
def inS (b : Int) (p : Int × Int) : Prop := p.1 ≤ b ∧ b < p.1 + p.2
def covJ (j : List (Int × Int)) (b : Int) : Prop := ∃ p ∈ j, inS b p
def inL (l : List (Int × Int)) (b : Int) : Prop := ∃ p ∈ l, someS p = true ∧ inS b p
def spB (p : Int × Int) : Prop := 0 ≤ p.1 ∧ 0 < p.2 ∧ p.1 + p.2 ≤ 8589934590
def SepJ (j : List (Int × Int)) : Prop := (∀ p ∈ j, spB p) ∧ j.Pairwise (fun p q => p.1 + p.2 < q.1)
theorem cov_nil (b : Int) : ¬ covJ [] b := fun ⟨_, h, _⟩ => nomatch h
theorem cov_cons (p : Int × Int) (j : List (Int × Int)) (b : Int) : covJ (p :: j) b ↔ inS b p ∨ covJ j b := by
  constructor
  · rintro ⟨q, hq, h⟩
    rcases List.mem_cons.1 hq with rfl | e
    · exact .inl h
    · exact .inr ⟨q, e, h⟩
  · rintro (h | ⟨q, hq, h⟩)
    · exact ⟨p, List.mem_cons_self, h⟩
    · exact ⟨q, List.mem_cons_of_mem _ hq, h⟩
theorem cov_app (j k : List (Int × Int)) (b : Int) : covJ (j ++ k) b ↔ covJ j b ∨ covJ k b := by
  constructor
  · rintro ⟨q, hq, h⟩
    rcases List.mem_append.1 hq with e | e
    · exact .inl ⟨q, e, h⟩
    · exact .inr ⟨q, e, h⟩
  · rintro (⟨q, hq, h⟩ | ⟨q, hq, h⟩)
    · exact ⟨q, List.mem_append_left _ hq, h⟩
    · exact ⟨q, List.mem_append_right _ hq, h⟩
theorem cov_one (p : Int × Int) (b : Int) : covJ [p] b ↔ inS b p := by
  rw [cov_cons]
  exact ⟨fun h => h.elim id (fun h => absurd h (cov_nil b)), .inl⟩
theorem sep_nil : SepJ [] := ⟨fun p h => (nomatch h), .nil⟩
theorem sep_unique : ∀ {j k : List (Int × Int)}, SepJ j → SepJ k → (∀ b, covJ j b ↔ covJ k b) → j = k
  | [], [], _, _, _ => rfl
  | [], q :: k, _, hk, h => by
    have hq := hk.1 q List.mem_cons_self
    unfold spB at hq
    exact absurd ((h q.1).2 ⟨q, List.mem_cons_self, by unfold inS; omega⟩) (cov_nil _)
  | p :: j, [], hj, _, h => by
    have hp := hj.1 p List.mem_cons_self
    unfold spB at hp
    exact absurd ((h p.1).1 ⟨p, List.mem_cons_self, by unfold inS; omega⟩) (cov_nil _)
  | p :: j, q :: k, hj, hk, h => by
    obtain ⟨hj1, hj2⟩ := hj
    obtain ⟨hk1, hk2⟩ := hk
    obtain ⟨a1, a2⟩ := List.pairwise_cons.1 hj2
    obtain ⟨b1, b2⟩ := List.pairwise_cons.1 hk2
    have hp := hj1 p List.mem_cons_self
    have hq := hk1 q List.mem_cons_self
    unfold spB at hp hq
    have lowj : ∀ b, covJ (p :: j) b → p.1 ≤ b := fun b hb => by
      rcases (cov_cons p j b).1 hb with e | ⟨x, hx, e⟩
      · exact e.1
      · have := a1 x hx
        have := e.1
        omega
    have lowk : ∀ b, covJ (q :: k) b → q.1 ≤ b := fun b hb => by
      rcases (cov_cons q k b).1 hb with e | ⟨x, hx, e⟩
      · exact e.1
      · have := b1 x hx
        have := e.1
        omega
    have e1 : p.1 = q.1 := by
      have := lowk p.1 ((h p.1).1 ⟨p, List.mem_cons_self, by unfold inS; omega⟩)
      have := lowj q.1 ((h q.1).2 ⟨q, List.mem_cons_self, by unfold inS; omega⟩)
      omega
    have e2 : ¬ p.1 + p.2 < q.1 + q.2 := fun hlt => by
      rcases (cov_cons p j _).1 ((h (p.1 + p.2)).2 ⟨q, List.mem_cons_self, by unfold inS; omega⟩) with e | ⟨x, hx, e⟩
      · unfold inS at e
        omega
      · have := a1 x hx
        unfold inS at e
        omega
    have e3 : ¬ q.1 + q.2 < p.1 + p.2 := fun hlt => by
      rcases (cov_cons q k _).1 ((h (q.1 + q.2)).1 ⟨p, List.mem_cons_self, by unfold inS; omega⟩) with e | ⟨x, hx, e⟩
      · unfold inS at e
        omega
      · have := b1 x hx
        unfold inS at e
        omega
    have e4 : p = q := Prod.ext e1 (by omega)
    subst e4
    congr 1
    refine sep_unique ⟨fun x hx => hj1 x (List.mem_cons_of_mem _ hx), a2⟩ ⟨fun x hx => hk1 x (List.mem_cons_of_mem _ hx), b2⟩ (fun b => ?_)
    have hb := h b
    rw [cov_cons, cov_cons] at hb
    constructor
    · rintro ⟨x, hx, e⟩
      have := a1 x hx
      rcases hb.1 (.inr ⟨x, hx, e⟩) with q | q
      · unfold inS at q e
        omega
      · exact q
    · rintro ⟨x, hx, e⟩
      have := b1 x hx
      rcases hb.2 (.inr ⟨x, hx, e⟩) with q | q
      · unfold inS at q e
        omega
      · exact q
theorem sep_push {j : List (Int × Int)} {x : Int × Int} (hj : SepJ j) (hx : spB x) (h : ∀ p ∈ j, p.1 + p.2 < x.1) : SepJ (j ++ [x]) := by
  refine ⟨fun p hp => ?_, List.pairwise_append.2 ⟨hj.2, List.pairwise_singleton _ _, fun p hp q hq => ?_⟩⟩
  · rcases List.mem_append.1 hp with e | e
    · exact hj.1 p e
    · rw [List.mem_singleton] at e
      rw [e]
      exact hx
  · rw [List.mem_singleton] at hq
    rw [hq]
    exact h p hp
theorem sep_last {j : List (Int × Int)} {q : Int × Int} (hj : SepJ (j ++ [q])) : SepJ j ∧ spB q ∧ ∀ p ∈ j, p.1 + p.2 < q.1 := by
  obtain ⟨h1, h2⟩ := hj
  obtain ⟨a, _, c⟩ := List.pairwise_append.1 h2
  exact ⟨⟨fun p hp => h1 p (List.mem_append_left _ hp), a⟩, h1 q (by simp), fun p hp => c p hp q (by simp)⟩
theorem sep_all {j : List (Int × Int)} {q p : Int × Int} (hj : SepJ (j ++ [q])) (hp : p ∈ j ++ [q]) : p.1 + p.2 ≤ q.1 + q.2 := by
  obtain ⟨h1, h2, h3⟩ := sep_last hj
  rcases List.mem_append.1 hp with e | e
  · have := h3 p e
    unfold spB at h2
    omega
  · rw [List.mem_singleton] at e
    rw [e]
    exact Int.le_refl _
theorem inL_app (l m : List (Int × Int)) (b : Int) : inL (l ++ m) b ↔ inL l b ∨ inL m b := by
  constructor
  · rintro ⟨q, hq, h⟩
    rcases List.mem_append.1 hq with e | e
    · exact .inl ⟨q, e, h⟩
    · exact .inr ⟨q, e, h⟩
  · rintro (⟨q, hq, h⟩ | ⟨q, hq, h⟩)
    · exact ⟨q, List.mem_append_left _ hq, h⟩
    · exact ⟨q, List.mem_append_right _ hq, h⟩
theorem someS_b {p : Int × Int} (h : someS p = true) : spB p := by
  have := someS_is.1 h
  unfold spB
  omega
/-! ### joined by the program: one by one, in their order -/
structure MInv (done out : List (Int × Int)) : Prop where
  sep : SepJ out
  cov : ∀ b, covJ out b ↔ covJ done b
  last : ∀ o q, out = o ++ [q] → ∃ p ∈ done, q.1 = p.1
theorem m_start : MInv [] [] := ⟨sep_nil, fun _ => Iff.rfl, fun o q h => by simp at h⟩
theorem m_first {done : List (Int × Int)} {x : Int × Int} (h : MInv done []) (hx : spB x) : MInv (done ++ [x]) [x] :=
  ⟨by simpa using sep_push sep_nil hx (fun p hp => nomatch hp), fun b => by
    rw [cov_app, cov_one, ← h.cov b]
    exact ⟨.inr, fun q => q.elim (fun q => absurd q (cov_nil b)) id⟩, fun o q e => by
    have e2 : o = [] ∧ q = x := by
      cases o with
      | nil => simpa using e.symm
      | cons a o => simp at e
    exact ⟨x, by simp, by rw [e2.2]⟩⟩
theorem m_push {done o : List (Int × Int)} {q x : Int × Int} (h : MInv done (o ++ [q])) (hx : spB x) (hlt : q.1 + q.2 < x.1) : MInv (done ++ [x]) (o ++ [q] ++ [x]) :=
  ⟨sep_push h.sep hx (fun p hp => by have := sep_all h.sep hp; omega), fun b => by
    rw [cov_app, cov_app done, h.cov b], fun o2 q2 e => by
    have := List.append_inj_right' e rfl
    simp at this
    exact ⟨x, by simp, by rw [this]⟩⟩
theorem m_join {done o : List (Int × Int)} {q x : Int × Int} (h : MInv done (o ++ [q])) (hx : spB x) (hord : ∀ p ∈ done, p.1 ≤ x.1) (hle : x.1 ≤ q.1 + q.2) : MInv (done ++ [x]) (o ++ [(q.1, max (q.1 + q.2) (x.1 + x.2) - q.1)]) := by
  obtain ⟨s1, s2, s3⟩ := sep_last h.sep
  obtain ⟨p0, hp0, e0⟩ := h.last o q rfl
  have hq := hord p0 hp0
  unfold spB at s2 hx
  refine ⟨sep_push s1 (by unfold spB; simp only; omega) (fun p hp => by have := s3 p hp; exact this), fun b => ?_, fun o2 q2 e => ?_⟩
  · have hc := h.cov b
    rw [cov_app, cov_one] at hc
    rw [cov_app, cov_app, cov_one, cov_one, ← hc]
    unfold inS
    simp only
    constructor
    · rintro (e | e)
      · exact .inl (.inl e)
      · by_cases hb : b < q.1 + q.2
        · exact .inl (.inr ⟨e.1, hb⟩)
        · exact .inr (by omega)
    · rintro ((e | e) | e)
      · exact .inl e
      · exact .inr (by omega)
      · exact .inr (by omega)
  · have := List.append_inj_right' e rfl
    simp at this
    exact ⟨p0, by simp [hp0], by rw [← this]; exact e0⟩
/-! ### joined by the document: each run from where it begins up to its end -/
def atStep (f at' : Int) (p : Int × Int) : Int := if someS p = true ∧ f < p.1 ∧ (at' < 0 ∨ p.1 < at') then p.1 else at'
def atF (f : Int) (l : List (Int × Int)) : Int := l.foldl (atStep f) (-1)
theorem snoc_ind {α : Type} {P : List α → Prop} (h0 : P []) (h1 : ∀ l x, P l → P (l ++ [x])) (l : List α) : P l := by
  have : ∀ l : List α, P l.reverse := by
    intro l
    induction l with
    | nil => exact h0
    | cons x l ih =>
      rw [List.reverse_cons]
      exact h1 _ _ ih
  have h := this l.reverse
  rwa [List.reverse_reverse] at h
theorem atF_is {f : Int} (hf : -1 ≤ f) (l : List (Int × Int)) : (atF f l = -1 ∧ ∀ p ∈ l, someS p = true → p.1 ≤ f) ∨ (∃ p ∈ l, someS p = true ∧ atF f l = p.1 ∧ f < p.1 ∧ ∀ q ∈ l, someS q = true → f < q.1 → p.1 ≤ q.1) := by
  refine snoc_ind (P := fun l => (atF f l = -1 ∧ ∀ p ∈ l, someS p = true → p.1 ≤ f) ∨ (∃ p ∈ l, someS p = true ∧ atF f l = p.1 ∧ f < p.1 ∧ ∀ q ∈ l, someS q = true → f < q.1 → p.1 ≤ q.1)) (.inl ⟨rfl, fun p hp => nomatch hp⟩) (fun l x ih => ?_) l
  have e : atF f (l ++ [x]) = atStep f (atF f l) x := by
    unfold atF
    rw [List.foldl_append]
    rfl
  rw [e]
  unfold atStep
  rcases ih with ⟨h1, h2⟩ | ⟨p, hp, hs, h1, h2, h3⟩
  · rw [h1]
    by_cases hc : someS x = true ∧ f < x.1 ∧ ((-1 : Int) < 0 ∨ x.1 < -1)
    · rw [if_pos hc]
      refine .inr ⟨x, by simp, hc.1, rfl, hc.2.1, fun q hq hsq hfq => ?_⟩
      rcases List.mem_append.1 hq with e | e
      · have := h2 q e hsq
        omega
      · rw [List.mem_singleton] at e
        rw [e]
        exact Int.le_refl _
    · rw [if_neg hc]
      refine .inl ⟨rfl, fun q hq hsq => ?_⟩
      rcases List.mem_append.1 hq with e | e
      · exact h2 q e hsq
      · rw [List.mem_singleton] at e
        subst e
        by_cases hfx : f < q.1
        · exact absurd ⟨hsq, hfx, .inl (by decide)⟩ hc
        · omega
  · rw [h1]
    by_cases hc : someS x = true ∧ f < x.1 ∧ (p.1 < 0 ∨ x.1 < p.1)
    · rw [if_pos hc]
      have h0 := someS_is.1 hs
      refine .inr ⟨x, by simp, hc.1, rfl, hc.2.1, fun q hq hsq hfq => ?_⟩
      rcases List.mem_append.1 hq with e | e
      · have := h3 q e hsq hfq
        have := hc.2.2
        omega
      · rw [List.mem_singleton] at e
        rw [e]
        exact Int.le_refl _
    · rw [if_neg hc]
      refine .inr ⟨p, by simp [hp], hs, rfl, h2, fun q hq hsq hfq => ?_⟩
      rcases List.mem_append.1 hq with e | e
      · exact h3 q e hsq hfq
      · rw [List.mem_singleton] at e
        subst e
        by_cases hlt : q.1 < p.1
        · exact absurd ⟨hsq, hfq, .inr hlt⟩ hc
        · omega
def endStep (e : Int) (p : Int × Int) : Int := if someS p = true ∧ p.1 ≤ e ∧ e < p.1 + p.2 then p.1 + p.2 else e
def sweep (l : List (Int × Int)) (e : Int) : Int := l.foldl endStep e
def sweeps (l : List (Int × Int)) : Nat → Int → Int
  | 0, e => e
  | n + 1, e => sweep l (sweeps l n e)
def endF (l : List (Int × Int)) (a : Int) : Int := sweeps l (l.length + 1) a
def closedS (l : List (Int × Int)) (e : Int) : Prop := ∀ p ∈ l, someS p = true → p.1 ≤ e → p.1 + p.2 ≤ e
/-- How many end at e, or ahead. -/
def endsBy (l : List (Int × Int)) (e : Int) : Nat := l.countP (fun p => someS p && decide (p.1 + p.2 ≤ e))
theorem endsBy_le (l : List (Int × Int)) (e : Int) : endsBy l e ≤ l.length := List.countP_le_length
theorem endsBy_mono (l : List (Int × Int)) {e e' : Int} (h : e ≤ e') : endsBy l e ≤ endsBy l e' := by
  refine List.countP_mono_left (fun p _ hp => ?_)
  rw [Bool.and_eq_true, decide_eq_true_eq] at hp ⊢
  exact ⟨hp.1, Int.le_trans hp.2 h⟩
theorem endsBy_lt {l : List (Int × Int)} {e e' : Int} {p : Int × Int} (hp : p ∈ l) (hs : someS p = true) (h1 : e < p.1 + p.2) (h2 : p.1 + p.2 ≤ e') : endsBy l e + 1 ≤ endsBy l e' := by
  induction l with
  | nil => cases hp
  | cons x l ih =>
    unfold endsBy at ih ⊢
    rw [List.countP_cons, List.countP_cons]
    rcases List.mem_cons.1 hp with rfl | hm
    · have := endsBy_mono l (e := e) (e' := e') (by omega)
      unfold endsBy at this
      rw [hs, Bool.true_and, Bool.true_and, decide_eq_false (by omega), decide_eq_true h2, if_neg Bool.false_ne_true, if_pos rfl]
      omega
    · have := ih hm
      have hx : (if (someS x && decide (x.1 + x.2 ≤ e)) = true then 1 else 0) ≤ (if (someS x && decide (x.1 + x.2 ≤ e')) = true then 1 else 0) := by
        split
        · rename_i hq
          rw [Bool.and_eq_true, decide_eq_true_eq] at hq
          rw [if_pos (by rw [Bool.and_eq_true, decide_eq_true_eq]; exact ⟨hq.1, by omega⟩)]
          exact Nat.le_refl _
        · exact Nat.zero_le _
      omega
theorem sweep_is (l : List (Int × Int)) (e : Int) : (sweep l e = e ∧ closedS l e) ∨ (e < sweep l e ∧ ∃ p ∈ l, someS p = true ∧ sweep l e = p.1 + p.2 ∧ e < p.1 + p.2) := by
  have key : ∀ m : List (Int × Int), (sweep m e = e ∧ closedS m e) ∨ (e < sweep m e ∧ ∃ p ∈ m, someS p = true ∧ sweep m e = p.1 + p.2 ∧ e < p.1 + p.2) := by
    refine snoc_ind (.inl ⟨rfl, fun p hp => nomatch hp⟩) (fun m x ih => ?_)
    have e1 : sweep (m ++ [x]) e = endStep (sweep m e) x := by
      unfold sweep
      rw [List.foldl_append]
      rfl
    rw [e1]
    unfold endStep
    by_cases hc : someS x = true ∧ x.1 ≤ sweep m e ∧ sweep m e < x.1 + x.2
    · rw [if_pos hc]
      refine .inr ?_
      have : e ≤ sweep m e := by
        rcases ih with ⟨h, _⟩ | ⟨h, _⟩
        · omega
        · omega
      exact ⟨by omega, x, by simp, hc.1, rfl, by omega⟩
    · rw [if_neg hc]
      rcases ih with ⟨h1, h2⟩ | ⟨h1, p, hp, h3⟩
      · rw [h1] at hc ⊢
        refine .inl ⟨rfl, fun q hq hs hle => ?_⟩
        rcases List.mem_append.1 hq with e | e
        · exact h2 q e hs hle
        · rw [List.mem_singleton] at e
          subst e
          by_cases hlt : e < q.1 + q.2
          · exact absurd ⟨hs, hle, hlt⟩ hc
          · omega
      · exact .inr ⟨h1, p, by simp [hp], h3⟩
  exact key l
theorem sweep_cov (l : List (Int × Int)) {a e : Int} (h : ∀ b, a ≤ b → b < e → inL l b) : ∀ b, a ≤ b → b < sweep l e → inL l b := by
  have key : ∀ m : List (Int × Int), (∀ p ∈ m, p ∈ l) → ∀ b, a ≤ b → b < sweep m e → inL l b := by
    refine snoc_ind (fun _ => h) (fun m x ih hm b h1 h2 => ?_)
    have e1 : sweep (m ++ [x]) e = endStep (sweep m e) x := by
      unfold sweep
      rw [List.foldl_append]
      rfl
    rw [e1] at h2
    unfold endStep at h2
    have ih2 := ih (fun p hp => hm p (by simp [hp]))
    split at h2
    · rename_i hc
      by_cases hb : b < sweep m e
      · exact ih2 b h1 hb
      · exact ⟨x, hm x (by simp), hc.1, by unfold inS; omega⟩
    · exact ih2 b h1 h2
  exact key l (fun p hp => hp)
theorem sweep_ge (l : List (Int × Int)) (e : Int) : e ≤ sweep l e := by
  rcases sweep_is l e with ⟨h, _⟩ | ⟨h, _⟩
  · omega
  · omega
theorem sweep_le (l : List (Int × Int)) {e : Int} (h : e ≤ 8589934590) : sweep l e ≤ 8589934590 := by
  rcases sweep_is l e with ⟨h1, _⟩ | ⟨_, p, _, hs, h1, _⟩
  · omega
  · have := someS_is.1 hs
    omega
theorem sweeps_ge (l : List (Int × Int)) (a : Int) : ∀ n, a ≤ sweeps l n a
  | 0 => Int.le_refl _
  | n + 1 => Int.le_trans (sweeps_ge l a n) (sweep_ge l _)
theorem sweeps_le (l : List (Int × Int)) {a : Int} (h : a ≤ 8589934590) : ∀ n, sweeps l n a ≤ 8589934590
  | 0 => h
  | n + 1 => sweep_le l (sweeps_le l h n)
theorem sweeps_cov (l : List (Int × Int)) (a : Int) : ∀ n b, a ≤ b → b < sweeps l n a → inL l b
  | 0, b, h1, h2 => by
    unfold sweeps at h2
    omega
  | n + 1, b, h1, h2 => sweep_cov l (sweeps_cov l a n) b h1 h2
theorem sweeps_closed (l : List (Int × Int)) (a : Int) : ∀ n, closedS l (sweeps l n a) ∨ n ≤ endsBy l (sweeps l n a)
  | 0 => .inr (Nat.zero_le _)
  | n + 1 => by
    show closedS l (sweep l (sweeps l n a)) ∨ _
    rcases sweep_is l (sweeps l n a) with ⟨h1, h2⟩ | ⟨h1, p, hp, hs, h2, h3⟩
    · rw [h1]
      exact .inl h2
    · rcases sweeps_closed l a n with q | q
      · by_cases hle : p.1 ≤ sweeps l n a
        · have := q p hp hs hle
          omega
        · exfalso
          have hcl : sweep l (sweeps l n a) = sweeps l n a := by
            have key : ∀ m : List (Int × Int), (∀ x ∈ m, x ∈ l) → sweep m (sweeps l n a) = sweeps l n a := by
              refine snoc_ind (fun _ => rfl) (fun m x ih hm => ?_)
              have e1 : sweep (m ++ [x]) (sweeps l n a) = endStep (sweep m (sweeps l n a)) x := by
                unfold sweep
                rw [List.foldl_append]
                rfl
              rw [e1, ih (fun y hy => hm y (by simp [hy]))]
              unfold endStep
              rw [if_neg]
              rintro ⟨c1, c2, c3⟩
              have := q x (hm x (by simp)) c1 c2
              omega
            exact key l (fun x hx => hx)
          omega
      · refine .inr ?_
        show n + 1 ≤ endsBy l (sweep l (sweeps l n a))
        have := endsBy_lt (e := sweeps l n a) (e' := sweep l (sweeps l n a)) hp hs h3 (by omega)
        omega
theorem endF_closed (l : List (Int × Int)) (a : Int) : closedS l (endF l a) := by
  rcases sweeps_closed l a (l.length + 1) with h | h
  · exact h
  · have := endsBy_le l (sweeps l (l.length + 1) a)
    omega
structure JInv (l : List (Int × Int)) (f : Int) (out : List (Int × Int)) : Prop where
  sep : SepJ out
  low : -1 ≤ f
  high : f ≤ 8589934590
  ends : ∀ p ∈ out, p.1 + p.2 ≤ f
  cov : ∀ b, covJ out b ↔ inL l b ∧ b < f
  clo : closedS l f
theorem j_start (l : List (Int × Int)) : JInv l (-1) [] :=
  ⟨sep_nil, Int.le_refl _, by decide, (fun p hp => nomatch hp), fun b => ⟨fun h => absurd h (cov_nil b), fun ⟨⟨p, _, hs, hi⟩, hb⟩ => by
    have := someS_is.1 hs
    unfold inS at hi
    omega⟩, fun p _ hs hle => by
    have := someS_is.1 hs
    omega⟩
theorem j_stop {l out : List (Int × Int)} {f : Int} (h : JInv l f out) (hat : atF f l < 0) : ∀ b, covJ out b ↔ inL l b := by
  intro b
  rw [h.cov b]
  refine ⟨fun q => q.1, fun q => ⟨q, ?_⟩⟩
  obtain ⟨p, hp, hs, hi⟩ := q
  rcases atF_is h.low l with ⟨_, h2⟩ | ⟨p2, _, hs2, h1, h2, _⟩
  · have := h.clo p hp hs (h2 p hp hs)
    unfold inS at hi
    omega
  · have := someS_is.1 hs2
    omega
theorem j_step {l out : List (Int × Int)} {f : Int} (h : JInv l f out) (hat : ¬ atF f l < 0) : JInv l (endF l (atF f l)) (out ++ [(atF f l, endF l (atF f l) - atF f l)]) ∧ f < endF l (atF f l) ∧ 0 ≤ atF f l ∧ atF f l ≤ 4294967295 := by
  rcases atF_is h.low l with ⟨h1, _⟩ | ⟨p, hp, hs, h1, h2, h3⟩
  · omega
  · have hb := someS_is.1 hs
    have hcl := endF_closed l (atF f l)
    have hge : atF f l ≤ endF l (atF f l) := sweeps_ge l (atF f l) (l.length + 1)
    have hle : endF l (atF f l) ≤ 8589934590 := sweeps_le l (by omega) (l.length + 1)
    have hcov : ∀ b, atF f l ≤ b → b < endF l (atF f l) → inL l b := sweeps_cov l (atF f l) (l.length + 1)
    have hpe := hcl p hp hs (by omega)
    rw [h1] at *
    generalize endF l p.1 = E at *
    refine ⟨⟨sep_push h.sep (by unfold spB; simp only; omega) (fun q hq => by have := h.ends q hq; simp only; omega), by omega, hle, fun q hq => ?_, fun b => ?_, hcl⟩, by omega, by omega, by omega⟩
    · rcases List.mem_append.1 hq with e | e
      · have := h.ends q e
        omega
      · rw [List.mem_singleton] at e
        subst e
        simp only
        omega
    · rw [cov_app, cov_one, h.cov b]
      unfold inS
      simp only
      constructor
      · rintro (⟨q1, q2⟩ | q)
        · exact ⟨q1, by omega⟩
        · exact ⟨hcov b (by omega) (by omega), by omega⟩
      · rintro ⟨q1, q2⟩
        by_cases hbf : b < f
        · exact .inl ⟨q1, hbf⟩
        · refine .inr ⟨?_, by omega⟩
          obtain ⟨x, hx, hsx, hi⟩ := q1
          unfold inS at hi
          by_cases hxf : f < x.1
          · have := h3 x hx hsx hxf
            omega
          · have := h.clo x hx hsx (by omega)
            omega
end Go.Proofs.Ytdknpnmdjjmapaa.AL

