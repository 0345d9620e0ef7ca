/- Spans, in plain Lean: what is free; how many have a byte. -/
import Derived.Test.YtdknpnmdjjmapaaQReserveIsALResP
set_option linter.unusedSimpArgs false
set_option linter.unusedVariables false
namespace Go.Proofs.Ytdknpnmdjjmapaa.AL
open Go Go.Proofs
structure GInv (done : List (Int × Int)) (f : Int) (out : List (Int × Int)) : Prop where
  sep : SepJ out
  low : 0 ≤ f
  high : f ≤ 8589934590
  ends : ∀ p ∈ out, p.1 + p.2 < f
  dends : ∀ p ∈ done, p.1 + p.2 ≤ f
  cov : ∀ b, covJ out b ↔ 0 ≤ b ∧ b < f ∧ b < 65536 ∧ ¬ covJ done b
  here : f = 0 ∨ ∃ p ∈ done, f = p.1 + p.2
theorem g_start : GInv [] 0 [] :=
  ⟨sep_nil, Int.le_refl _, by decide, (fun p hp => nomatch hp), (fun p hp => nomatch hp), fun b => ⟨fun h => absurd h (cov_nil b), fun h => by omega⟩, .inl rfl⟩
theorem ends_no {done : List (Int × Int)} {f b : Int} (h : ∀ p ∈ done, p.1 + p.2 ≤ f) (hb : f ≤ b) : ¬ covJ done b := fun ⟨p, hp, hi⟩ => by
  have := h p hp
  unfold inS at hi
  omega
theorem g_gap {done out : List (Int × Int)} {f t : Int} (h : GInv done f out) (ht : t ≤ 65536) (hlt : f < t) : SepJ (out ++ [(f, t - f)]) ∧ ∀ b, covJ (out ++ [(f, t - f)]) b ↔ (0 ≤ b ∧ b < t ∧ b < 65536 ∧ ¬ covJ done b) := by
  have h0 := h.low
  refine ⟨sep_push h.sep (by unfold spB; simp only; omega) (fun p hp => h.ends p hp), fun b => ?_⟩
  rw [cov_app, cov_one, h.cov b]
  unfold inS
  simp only
  constructor
  · rintro (⟨a1, a2, a3, a4⟩ | a)
    · exact ⟨a1, by omega, a3, a4⟩
    · exact ⟨by omega, by omega, by omega, ends_no h.dends (by omega)⟩
  · rintro ⟨a1, a2, a3, a4⟩
    by_cases hb : b < f
    · exact .inl ⟨a1, hb, a3, a4⟩
    · exact .inr (by omega)
theorem g_next {done out out2 : List (Int × Int)} {f : Int} {x : Int × Int} (h : GInv done f out) (hx : spB x) (hf : f ≤ x.1) (hs : SepJ out2) (he : ∀ p ∈ out2, p.1 + p.2 < x.1 + x.2) (hc : ∀ b, covJ out2 b ↔ (0 ≤ b ∧ b < x.1 ∧ b < 65536 ∧ ¬ covJ done b)) : GInv (done ++ [x]) (x.1 + x.2) out2 := by
  have h0 := h.low
  unfold spB at hx
  refine ⟨hs, by omega, by omega, he, fun p hp => ?_, fun b => ?_, .inr ⟨x, by simp, rfl⟩⟩
  · rcases List.mem_append.1 hp with e | e
    · have := h.dends p e
      omega
    · rw [List.mem_singleton] at e
      rw [e]
      exact Int.le_refl _
  · rw [hc b, cov_app, cov_one]
    unfold inS
    constructor
    · rintro ⟨a1, a2, a3, a4⟩
      exact ⟨a1, by omega, a3, fun q => q.elim a4 (fun q => by omega)⟩
    · rintro ⟨a1, a2, a3, a4⟩
      exact ⟨a1, by have : ¬ (x.1 ≤ b ∧ b < x.1 + x.2) := fun q => a4 (.inr q); omega, a3, fun q => a4 (.inl q)⟩
theorem g_step1 {done out : List (Int × Int)} {f : Int} {x : Int × Int} (h : GInv done f out) (hx : spB x) (hf : f ≤ x.1) (hlt : f < min x.1 65536) : GInv (done ++ [x]) (x.1 + x.2) (out ++ [(f, min x.1 65536 - f)]) := by
  obtain ⟨s, c⟩ := g_gap h (t := min x.1 65536) (by omega) hlt
  unfold spB at hx
  refine g_next h hx hf s (fun p hp => ?_) (fun b => (c b).trans ⟨fun ⟨a1, a2, a3, a4⟩ => ⟨a1, by omega, a3, a4⟩, fun ⟨a1, a2, a3, a4⟩ => ⟨a1, by omega, a3, a4⟩⟩)
  rcases List.mem_append.1 hp with e | e
  · have := h.ends p e
    omega
  · rw [List.mem_singleton] at e
    subst e
    simp only
    omega
theorem g_step2 {done out : List (Int × Int)} {f : Int} {x : Int × Int} (h : GInv done f out) (hx : spB x) (hf : f ≤ x.1) (hlt : ¬ f < min x.1 65536) : GInv (done ++ [x]) (x.1 + x.2) out := by
  unfold spB at hx
  refine g_next h hx hf h.sep (fun p hp => by have := h.ends p hp; omega) (fun b => (h.cov b).trans ⟨fun ⟨a1, a2, a3, a4⟩ => ⟨a1, by omega, a3, a4⟩, fun ⟨a1, a2, a3, a4⟩ => ⟨a1, by omega, a3, a4⟩⟩)
def FreeOf (l F : List (Int × Int)) : Prop := SepJ F ∧ ∀ b, covJ F b ↔ (4096 ≤ b ∧ b < 65536 ∧ ¬ inL l b)
def JoinOf (l J : List (Int × Int)) : Prop := SepJ J ∧ ∀ b, covJ J b ↔ inL l b
theorem inL_load (l : List (Int × Int)) (b : Int) : inL (l ++ [(0, 4096)]) b ↔ inL l b ∨ (0 ≤ b ∧ b < 4096) := by
  rw [inL_app]
  refine or_congr Iff.rfl ⟨fun ⟨p, hp, _, hi⟩ => ?_, fun h => ⟨(0, 4096), List.mem_singleton.2 rfl, by decide, by unfold inS; simp only; omega⟩⟩
  rw [List.mem_singleton] at hp
  subst hp
  unfold inS at hi
  simp only at hi
  omega
theorem g_end1 {l J out : List (Int × Int)} {f : Int} (hJ : JoinOf (l ++ [(0, 4096)]) J) (h : GInv J f out) (hlt : f < 65536) : FreeOf l (out ++ [(f, 65536 - f)]) := by
  obtain ⟨s, c⟩ := g_gap h (t := 65536) (by omega) hlt
  refine ⟨s, fun b => (c b).trans ?_⟩
  rw [hJ.2 b, inL_load]
  constructor
  · rintro ⟨a1, a2, a3, a4⟩
    exact ⟨by have : ¬ (0 ≤ b ∧ b < 4096) := fun q => a4 (.inr q); omega, a2, fun q => a4 (.inl q)⟩
  · rintro ⟨a1, a2, a3⟩
    exact ⟨by omega, a2, a2, fun q => q.elim a3 (fun q => by omega)⟩
theorem g_end2 {l J out : List (Int × Int)} {f : Int} (hJ : JoinOf (l ++ [(0, 4096)]) J) (h : GInv J f out) (hlt : ¬ f < 65536) : FreeOf l out := by
  refine ⟨h.sep, fun b => (h.cov b).trans ?_⟩
  rw [hJ.2 b, inL_load]
  constructor
  · rintro ⟨a1, a2, a3, a4⟩
    exact ⟨by have : ¬ (0 ≤ b ∧ b < 4096) := fun q => a4 (.inr q); omega, a3, fun q => a4 (.inl q)⟩
  · rintro ⟨a1, a2, a3⟩
    exact ⟨by omega, by omega, a2, fun q => q.elim a3 (fun q => by omega)⟩
structure DInv (done : List (Int × Int)) (f : Int) (out : List (Int × Int)) : Prop where
  sep : SepJ out
  low : 4096 ≤ f
  high : f ≤ 8589934590
  ends : ∀ p ∈ out, p.1 + p.2 < f
  dends : ∀ p ∈ done, p.1 + p.2 ≤ f
  cov : ∀ b, covJ out b ↔ 4096 ≤ b ∧ b < f ∧ b < 65536 ∧ ¬ covJ done b
  here : f = 4096 ∨ ∃ p ∈ done, f = p.1 + p.2
theorem d_start : DInv [] 4096 [] :=
  ⟨sep_nil, Int.le_refl _, by decide, (fun p hp => nomatch hp), (fun p hp => nomatch hp), fun b => ⟨fun h => absurd h (cov_nil b), fun h => by omega⟩, .inl rfl⟩
theorem d_gap {done out : List (Int × Int)} {f t : Int} (h : DInv done f out) (ht : t ≤ 65536) (hlt : f < t) : SepJ (out ++ [(f, t - f)]) ∧ ∀ b, covJ (out ++ [(f, t - f)]) b ↔ (4096 ≤ b ∧ b < t ∧ b < 65536 ∧ ¬ covJ done b) := by
  have h0 := h.low
  refine ⟨sep_push h.sep (by unfold spB; simp only; omega) (fun p hp => h.ends p hp), fun b => ?_⟩
  rw [cov_app, cov_one, h.cov b]
  unfold inS
  simp only
  constructor
  · rintro (⟨a1, a2, a3, a4⟩ | a)
    · exact ⟨a1, by omega, a3, a4⟩
    · exact ⟨by omega, by omega, by omega, ends_no h.dends (by omega)⟩
  · rintro ⟨a1, a2, a3, a4⟩
    by_cases hb : b < f
    · exact .inl ⟨a1, hb, a3, a4⟩
    · exact .inr (by omega)
theorem d_step1 {done out : List (Int × Int)} {f : Int} {x : Int × Int} (h : DInv done f out) (hx : spB x) (hgt : f < x.1) (hlt : f < 65536) : DInv (done ++ [x]) (max f (x.1 + x.2)) (out ++ [(f, min x.1 65536 - f)]) := by
  obtain ⟨s, c⟩ := d_gap h (t := min x.1 65536) (by omega) (by omega)
  have h0 := h.low
  unfold spB at hx
  have hm : max f (x.1 + x.2) = x.1 + x.2 := by omega
  rw [hm]
  refine ⟨s, by omega, by omega, fun p hp => ?_, fun p hp => ?_, fun b => ?_, .inr ⟨x, by simp, rfl⟩⟩
  · rcases List.mem_append.1 hp with e | e
    · have := h.ends p e
      omega
    · rw [List.mem_singleton] at e
      subst e
      simp only
      omega
  · rcases List.mem_append.1 hp with e | e
    · have := h.dends p e
      omega
    · rw [List.mem_singleton] at e
      rw [e]
      exact Int.le_refl _
  · rw [c b, cov_app, cov_one]
    unfold inS
    constructor
    · rintro ⟨a1, a2, a3, a4⟩
      exact ⟨a1, by omega, a3, fun q => q.elim a4 (fun q => by omega)⟩
    · rintro ⟨a1, a2, a3, a4⟩
      exact ⟨a1, by have : ¬ (x.1 ≤ b ∧ b < x.1 + x.2) := fun q => a4 (.inr q); omega, a3, fun q => a4 (.inl q)⟩
theorem d_step2 {done out : List (Int × Int)} {f : Int} {x : Int × Int} (h : DInv done f out) (hx : spB x) (hord : ∀ p ∈ done, p.1 + p.2 < x.1) (hno : ¬ (f < x.1 ∧ f < 65536)) : DInv (done ++ [x]) (max f (x.1 + x.2)) out := by
  have h0 := h.low
  have h1 := h.high
  unfold spB at hx
  refine ⟨h.sep, by omega, by omega, fun p hp => by have := h.ends p hp; omega, fun p hp => ?_, fun b => ?_, ?_⟩
  · rcases List.mem_append.1 hp with e | e
    · have := h.dends p e
      omega
    · rw [List.mem_singleton] at e
      rw [e]
      omega
  · rw [h.cov b, cov_app, cov_one]
    unfold inS
    have hh : f = 4096 ∨ f < x.1 := by
      rcases h.here with e | ⟨p, hp, e⟩
      · exact .inl e
      · have := hord p hp
        exact .inr (by omega)
    constructor
    · rintro ⟨a1, a2, a3, a4⟩
      exact ⟨a1, by omega, a3, fun q => q.elim a4 (fun q => by omega)⟩
    · rintro ⟨a1, a2, a3, a4⟩
      exact ⟨a1, by have : ¬ (x.1 ≤ b ∧ b < x.1 + x.2) := fun q => a4 (.inr q); omega, a3, fun q => a4 (.inl q)⟩
  · by_cases hm : f ≤ x.1 + x.2
    · exact .inr ⟨x, by simp, by omega⟩
    · rcases h.here with e | ⟨p, hp, e⟩
      · exact .inl (by omega)
      · exact .inr ⟨p, by simp [hp], by omega⟩
theorem d_end1 {l J out : List (Int × Int)} {f : Int} (hJ : JoinOf l J) (h : DInv J f out) (hlt : f < 65536) : FreeOf l (out ++ [(f, 65536 - f)]) := by
  obtain ⟨s, c⟩ := d_gap h (t := 65536) (by omega) hlt
  refine ⟨s, fun b => (c b).trans ?_⟩
  rw [hJ.2 b]
  exact ⟨fun ⟨a1, a2, a3, a4⟩ => ⟨a1, a2, a4⟩, fun ⟨a1, a2, a3⟩ => ⟨a1, a2, a2, a3⟩⟩
theorem d_end2 {l J out : List (Int × Int)} {f : Int} (hJ : JoinOf l J) (h : DInv J f out) (hlt : ¬ f < 65536) : FreeOf l out := by
  refine ⟨h.sep, fun b => (h.cov b).trans ?_⟩
  rw [hJ.2 b]
  exact ⟨fun ⟨a1, a2, a3, a4⟩ => ⟨a1, a3, a4⟩, fun ⟨a1, a2, a3⟩ => ⟨a1, by omega, a2, a3⟩⟩
/-! ### two that have the same bytes are one -/
theorem join_one {l J J2 : List (Int × Int)} (h : JoinOf l J) (h2 : JoinOf l J2) : J = J2 := sep_unique h.1 h2.1 (fun b => (h.2 b).trans (h2.2 b).symm)
theorem free_one {l F F2 : List (Int × Int)} (h : FreeOf l F) (h2 : FreeOf l F2) : F = F2 := sep_unique h.1 h2.1 (fun b => (h.2 b).trans (h2.2 b).symm)
theorem sp_step {j : List (Int × Int)} {i : Nat} (h : i < j.length) : j.take (i + 1) = j.take i ++ [j.getD i (0, 0)] := by
  rw [List.take_add_one, List.getElem?_eq_getElem h, List.getD_eq_getElem?_getD, List.getElem?_eq_getElem h]
  rfl
theorem sp_mem {j : List (Int × Int)} {i : Nat} (h : i < j.length) : j.getD i (0, 0) ∈ j := by
  rw [List.getD_eq_getElem?_getD, List.getElem?_eq_getElem h]
  exact List.getElem_mem h
theorem sep_ord {j : List (Int × Int)} (hj : SepJ j) {i : Nat} (h : i < j.length) : ∀ p ∈ j.take i, p.1 + p.2 < (j.getD i (0, 0)).1 := by
  have h2 : (j.take i ++ [j.getD i (0, 0)]).Pairwise (fun p q => p.1 + p.2 < q.1) := by
    rw [← sp_step h]
    exact hj.2.sublist (List.take_sublist _ _)
  exact fun p hp => (List.pairwise_append.1 h2).2.2 p hp _ (by simp)
def hasB (l : List (Int × Int)) (b : Int) : Bool := l.any (fun p => mayS p && (decide (p.1 ≤ b) && decide (b < p.1 + p.2)))
end Go.Proofs.Ytdknpnmdjjmapaa.AL

