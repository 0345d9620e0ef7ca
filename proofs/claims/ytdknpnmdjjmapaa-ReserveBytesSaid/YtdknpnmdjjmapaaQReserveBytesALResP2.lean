/- Spans, in plain Lean: what is free; how many have a byte. -/
import Derived.Test.YtdknpnmdjjmapaaQReserveBytesALResP
set_option linter.unusedSimpArgs false
set_option linter.unusedVariables false
namespace Go.Proofs.Ytdknpnmdjjmapaa.AL
open Go Go.Proofs
structure GInv (done : List (Int × Int)) (f : Int) (out : List (Int × Int)) : Prop where
  sep : SepJ out
  low : 0 ≤ f
  high : f ≤ 8589934590
  ends : ∀ p ∈ out, p.1 + p.2 < f
  dends : ∀ p ∈ done, p.1 + p.2 ≤ f
  cov : ∀ b, covJ out b ↔ 0 ≤ b ∧ b < f ∧ b < 65536 ∧ ¬ covJ done b
  here : f = 0 ∨ ∃ p ∈ done, f = p.1 + p.2
theorem g_start : GInv [] 0 [] :=
  ⟨sep_nil, Int.le_refl _, by decide, (fun p hp => nomatch hp), (fun p hp => nomatch hp), fun b => ⟨fun h => absurd h (cov_nil b), fun h => by omega⟩, .inl rfl⟩
theorem ends_no {done : List (Int × Int)} {f b : Int} (h : ∀ p ∈ done, p.1 + p.2 ≤ f) (hb : f ≤ b) : ¬ covJ done b := fun ⟨p, hp, hi⟩ => by
  have := h p hp
  unfold inS at hi
  omega
theorem g_gap {done out : List (Int × Int)} {f t : Int} (h : GInv done f out) (ht : t ≤ 65536) (hlt : f < t) : SepJ (out ++ [(f, t - f)]) ∧ ∀ b, covJ (out ++ [(f, t - f)]) b ↔ (0 ≤ b ∧ b < t ∧ b < 65536 ∧ ¬ covJ done b) := by
  have h0 := h.low
  refine ⟨sep_push h.sep (by unfold spB; simp only; omega) (fun p hp => h.ends p hp), fun b => ?_⟩
  rw [cov_app, cov_one, h.cov b]
  unfold inS
  simp only
  constructor
  · rintro (⟨a1, a2, a3, a4⟩ | a)
    · exact ⟨a1, by omega, a3, a4⟩
    · exact ⟨by omega, by omega, by omega, ends_no h.dends (by omega)⟩
  · rintro ⟨a1, a2, a3, a4⟩
    by_cases hb : b < f
    · exact .inl ⟨a1, hb, a3, a4⟩
    · exact .inr (by omega)
theorem g_next {done out out2 : List (Int × Int)} {f : Int} {x : Int × Int} (h : GInv done f out) (hx : spB x) (hf : f ≤ x.1) (hs : SepJ out2) (he : ∀ p ∈ out2, p.1 + p.2 < x.1 + x.2) (hc : ∀ b, covJ out2 b ↔ (0 ≤ b ∧ b < x.1 ∧ b < 65536 ∧ ¬ covJ done b)) : GInv (done ++ [x]) (x.1 + x.2) out2 := by
  have h0 := h.low
  unfold spB at hx
  refine ⟨hs, by omega, by omega, he, fun p hp => ?_, fun b => ?_, .inr ⟨x, by simp, rfl⟩⟩
  · rcases List.mem_append.1 hp with e | e
    · have := h.dends p e
      omega
    · rw [List.mem_singleton] at e
      rw [e]
      exact Int.le_refl _
  · rw [hc b, cov_app, cov_one]
    unfold inS
    constructor
    · rintro ⟨a1, a2, a3, a4⟩
      exact ⟨a1, by omega, a3, fun q => q.elim a4 (fun q => by omega)⟩
    · rintro ⟨a1, a2, a3, a4⟩
      exact ⟨a1, by have : ¬ (x.1 ≤ b ∧ b < x.1 + x.2) := fun q => a4 (.inr q); omega, a3, fun q => a4 (.inl q)⟩
theorem g_step1 {done out : List (Int × Int)} {f : Int} {x : Int × Int} (h : GInv done f out) (hx : spB x) (hf : f ≤ x.1) (hlt : f < min x.1 65536) : GInv (done ++ [x]) (x.1 + x.2) (out ++ [(f, min x.1 65536 - f)]) := by
  obtain ⟨s, c⟩ := g_gap h (t := min x.1 65536) (by omega) hlt
  unfold spB at hx
  refine g_next h hx hf s (fun p hp => ?_) (fun b => (c b).trans ⟨fun ⟨a1, a2, a3, a4⟩ => ⟨a1, by omega, a3, a4⟩, fun ⟨a1, a2, a3, a4⟩ => ⟨a1, by omega, a3, a4⟩⟩)
  rcases List.mem_append.1 hp with e | e
  · have := h.ends p e
    omega
  · rw [List.mem_singleton] at e
    subst e
    simp only
    omega
theorem g_step2 {done out : List (Int × Int)} {f : Int} {x : Int × Int} (h : GInv done f out) (hx : spB x) (hf : f ≤ x.1) (hlt : ¬ f < min x.1 65536) : GInv (done ++ [x]) (x.1 + x.2) out := by
  unfold spB at hx
  refine g_next h hx hf h.sep (fun p hp => by have := h.ends p hp; omega) (fun b => (h.cov b).trans ⟨fun ⟨a1, a2, a3, a4⟩ => ⟨a1, by omega, a3, a4⟩, fun ⟨a1, a2, a3, a4⟩ => ⟨a1, by omega, a3, a4⟩⟩)
def FreeOf (l F : List (Int × Int)) : Prop := SepJ F ∧ ∀ b, covJ F b ↔ (4096 ≤ b ∧ b < 65536 ∧ ¬ inL l b)
def JoinOf (l J : List (Int × Int)) : Prop := SepJ J ∧ ∀ b, covJ J b ↔ inL l b
theorem inL_load (l : List (Int × Int)) (b : Int) : inL (l ++ [(0, 4096)]) b ↔ inL l b ∨ (0 ≤ b ∧ b < 4096) := by
  rw [inL_app]
  refine or_congr Iff.rfl ⟨fun ⟨p, hp, _, hi⟩ => ?_, fun h => ⟨(0, 4096), List.mem_singleton.2 rfl, by decide, by unfold inS; simp only; omega⟩⟩
  rw [List.mem_singleton] at hp
  subst hp
  unfold inS at hi
  simp only at hi
  omega
theorem g_end1 {l J out : List (Int × Int)} {f : Int} (hJ : JoinOf (l ++ [(0, 4096)]) J) (h : GInv J f out) (hlt : f < 65536) : FreeOf l (out ++ [(f, 65536 - f)]) := by
  obtain ⟨s, c⟩ := g_gap h (t := 65536) (by omega) hlt
  refine ⟨s, fun b => (c b).trans ?_⟩
  rw [hJ.2 b, inL_load]
  constructor
  · rintro ⟨a1, a2, a3, a4⟩
    exact ⟨by have : ¬ (0 ≤ b ∧ b < 4096) := fun q => a4 (.inr q); omega, a2, fun q => a4 (.inl q)⟩
  · rintro ⟨a1, a2, a3⟩
    exact ⟨by omega, a2, a2, fun q => q.elim a3 (fun q => by omega)⟩
theorem g_end2 {l J out : List (Int × Int)} {f : Int} (hJ : JoinOf (l ++ [(0, 4096)]) J) (h : GInv J f out) (hlt : ¬ f < 65536) : FreeOf l out := by
  refine ⟨h.sep, fun b => (h.cov b).trans ?_⟩
  rw [hJ.2 b, inL_load]
  constructor
  · rintro ⟨a1, a2, a3, a4⟩
    exact ⟨by have : ¬ (0 ≤ b ∧ b < 4096) := fun q => a4 (.inr q); omega, a3, fun q => a4 (.inl q)⟩
  · rintro ⟨a1, a2, a3⟩
    exact ⟨by omega, by omega, a2, fun q => q.elim a3 (fun q => by omega)⟩
/-! ### two that have the same bytes are one -/
theorem join_one {l J J2 : List (Int × Int)} (h : JoinOf l J) (h2 : JoinOf l J2) : J = J2 := sep_unique h.1 h2.1 (fun b => (h.2 b).trans (h2.2 b).symm)
theorem free_one {l F F2 : List (Int × Int)} (h : FreeOf l F) (h2 : FreeOf l F2) : F = F2 := sep_unique h.1 h2.1 (fun b => (h.2 b).trans (h2.2 b).symm)
theorem sp_step {j : List (Int × Int)} {i : Nat} (h : i < j.length) : j.take (i + 1) = j.take i ++ [j.getD i (0, 0)] := by
  rw [List.take_add_one, List.getElem?_eq_getElem h, List.getD_eq_getElem?_getD, List.getElem?_eq_getElem h]
  rfl
theorem sp_mem {j : List (Int × Int)} {i : Nat} (h : i < j.length) : j.getD i (0, 0) ∈ j := by
  rw [List.getD_eq_getElem?_getD, List.getElem?_eq_getElem h]
  exact List.getElem_mem h
theorem sep_ord {j : List (Int × Int)} (hj : SepJ j) {i : Nat} (h : i < j.length) : ∀ p ∈ j.take i, p.1 + p.2 < (j.getD i (0, 0)).1 := by
  have h2 : (j.take i ++ [j.getD i (0, 0)]).Pairwise (fun p q => p.1 + p.2 < q.1) := by
    rw [← sp_step h]
    exact hj.2.sublist (List.take_sublist _ _)
  exact fun p hp => (List.pairwise_append.1 h2).2.2 p hp _ (by simp)
theorem sep_prev {j : List (Int × Int)} (hj : SepJ j) {i : Nat} (h : i < j.length) (h0 : 0 < i) : (j.getD (i - 1) (0, 0)).1 + (j.getD (i - 1) (0, 0)).2 < (j.getD i (0, 0)).1 := by
  refine sep_ord hj h _ ?_
  have e : i = i - 1 + 1 := by omega
  rw [e, sp_step (show i - 1 < j.length by omega)]
  simp
def covB (j : List (Int × Int)) (b : Int) : Bool := j.any (fun p => decide (p.1 ≤ b) && decide (b < p.1 + p.2))
theorem covB_is {j : List (Int × Int)} {b : Int} : covB j b = true ↔ covJ j b := by
  unfold covB covJ inS
  simp
/-- How many of the first ones have a byte. -/
def cntJ (j : List (Int × Int)) (b : Int) : Nat := if covB j b = true then 1 else 0
theorem cnt_in {j : List (Int × Int)} (hj : SepJ j) {i : Nat} (h : i < j.length) {b : Int} (hb : inS b (j.getD i (0, 0))) : cntJ (j.take (i + 1)) b = cntJ (j.take i) b + 1 := by
  have h1 : ¬ covJ (j.take i) b := fun ⟨p, hp, hi⟩ => by
    have := sep_ord hj h p hp
    unfold inS at hi hb
    omega
  unfold cntJ
  rw [if_neg (fun q => h1 (covB_is.1 q)), if_pos (covB_is.2 (by rw [sp_step h, cov_app, cov_one]; exact .inr hb))]
theorem cnt_out {j : List (Int × Int)} {i : Nat} (h : i < j.length) {b : Int} (hb : ¬ inS b (j.getD i (0, 0))) : cntJ (j.take (i + 1)) b = cntJ (j.take i) b := by
  unfold cntJ
  have : covJ (j.take (i + 1)) b ↔ covJ (j.take i) b := by
    rw [sp_step h, cov_app, cov_one]
    exact ⟨fun q => q.elim id (fun q => absurd q hb), .inl⟩
  have e : covB (j.take (i + 1)) b = covB (j.take i) b := by rw [Bool.eq_iff_iff, covB_is, covB_is, this]
  rw [e]
theorem cnt_yes {j : List (Int × Int)} {b : Int} (h : covJ j b) : cntJ j b = 1 := if_pos (covB_is.2 h)
theorem cnt_no {j : List (Int × Int)} {b : Int} (h : ¬ covJ j b) : cntJ j b = 0 := if_neg (fun q => h (covB_is.1 q))
/-- What is free lies in the memory, behind the loader. -/
theorem free_in {l F : List (Int × Int)} (h : FreeOf l F) {p : Int × Int} (hp : p ∈ F) : 4096 ≤ p.1 ∧ p.1 + p.2 ≤ 65536 := by
  have hb := h.1.1 p hp
  unfold spB at hb
  have h1 := ((h.2 p.1).1 ⟨p, hp, by unfold inS; omega⟩).1
  have h2 := ((h.2 (p.1 + p.2 - 1)).1 ⟨p, hp, by unfold inS; omega⟩).2.1
  omega
def hasB (l : List (Int × Int)) (b : Int) : Bool := l.any (fun p => mayS p && (decide (p.1 ≤ b) && decide (b < p.1 + p.2)))
theorem hasB_is {l : List (Int × Int)} {b : Int} : hasB l b = true ↔ inL l b := by
  unfold hasB inL
  rw [List.any_eq_true]
  constructor
  · rintro ⟨p, hp, h⟩
    rw [Bool.and_eq_true, Bool.and_eq_true, decide_eq_true_eq, decide_eq_true_eq] at h
    refine ⟨p, hp, ?_, h.2⟩
    unfold someS
    rw [h.1, Bool.true_and]
    exact decide_eq_true (by omega)
  · rintro ⟨p, hp, h, h2⟩
    unfold someS at h
    rw [Bool.and_eq_true] at h
    unfold inS at h2
    exact ⟨p, hp, by rw [h.1, decide_eq_true h2.1, decide_eq_true h2.2]; rfl⟩
end Go.Proofs.Ytdknpnmdjjmapaa.AL

