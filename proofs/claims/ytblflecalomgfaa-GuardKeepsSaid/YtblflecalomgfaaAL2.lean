/- The quiet operations' answers are the machine's. -/
import Derived.Test.YtblflecalomgfaaAL1
set_option linter.unusedVariables false
set_option linter.unusedSimpArgs false
namespace Go.Proofs.Ytblflecalomgfaa.AL
open Go
def tAgg (P : Program) (t : TypeId) : Option Bool := (P.underlying t).map fun d => match d with | .struct _ | .array _ _ => true | _ => false
def tSize (P : Program) (t : TypeId) : Option Nat := (P.info? t).map (·.size)
section
variable {P : Program} {g : Ghost} {w : World}
theorem run_isAgg {t : TypeId} {b : Bool} (h : tAgg P t = some b) : (isAgg t).run P w = .ok b w := by
  unfold tAgg at h
  obtain ⟨d, hd, hb⟩ := Option.map_eq_some_iff.1 h
  simp only [isAgg, Sem.run_bind, run_underlying hd, Result.andThen_ok]
  cases d <;> simp_all
theorem run_sizeOf {t : TypeId} {n : Nat} (h : tSize P t = some n) : (sizeOf t).run P w = .ok n w := by
  unfold tSize at h
  obtain ⟨i, hi, hn⟩ := Option.map_eq_some_iff.1 h
  simp [sizeOf, typeInfo, hi, hn]
theorem Reps.get {vs : Array Value} {ys : List AV} (h : Reps g w vs ys) {i : Nat} {y : AV} (hy : ys[i]? = some y) : ∃ v, vs[i]? = some v ∧ Rep g w v y := by
  have hi : i < vs.size := by rw [h.1]; exact (List.getElem?_eq_some_iff.1 hy).1
  exact ⟨vs[i], Array.getElem?_eq_getElem hi, h.2 i _ _ (Array.getElem?_eq_getElem hi) hy⟩
theorem Reps.cut {vs : Array Value} {ys : List AV} (h : Reps g w vs ys) (off n : Nat) (hn : off + n ≤ ys.length) : Reps g w (vs.extract off (off + n)) ((ys.drop off).take n) := by
  have h1 := h.1
  refine ⟨by simp; omega, fun i v y hv hy => ?_⟩
  have hi : i < n := by
    have := (List.getElem?_eq_some_iff.1 hy).1
    simp at this
    omega
  refine h.2 (off + i) v y ?_ ?_
  · rw [Array.getElem?_extract] at hv
    rw [if_pos (by omega)] at hv
    exact hv
  · rw [List.getElem?_take, if_pos hi, List.getElem?_drop] at hy
    exact hy
theorem run_apart {t : TypeId} {agg : Bool} {n off : Nat} {vs : Array Value} {cs : List AV} {y : AV} (ha : tAgg P t = some agg) (hn : tSize P t = some n) (hr : Reps g w vs cs) (h : apart agg n off cs = some y) :
    ∃ v, (part t vs off).run P w = .ok v w ∧ Rep g w v y := by
  unfold apart at h
  simp only [part, Sem.run_bind, run_isAgg ha, Result.andThen_ok]
  cases agg with
  | true =>
    simp only [if_true] at h
    split at h
    · obtain rfl := Option.some.inj h
      have hc := hr.cut off n (by assumption)
      refine ⟨.agg (vs.extract off (off + n)), ?_, .agg _ _ hc.1 hc.2⟩
      simp only [if_true, Sem.run_bind, run_sizeOf hn, Result.andThen_ok, Sem.run_pure]
    · cases h
  | false =>
    simp only [Bool.false_eq_true, if_false] at h
    obtain ⟨v, hv, hrep⟩ := hr.get h
    refine ⟨v, ?_, hrep⟩
    simp only [Bool.false_eq_true, if_false, hv, Sem.run_pure]
/-- Cells from an address on. -/
def CellsAt (g : Ghost) (w : World) (b o : Nat) (ys : List AV) : Prop := ∀ (i : Nat) (y : AV), ys[i]? = some y → ∃ u, w.cell? ⟨b, o + i, none⟩ = some u ∧ Rep g w u y
theorem run_loadVar {t : TypeId} {agg : Bool} {n off b o : Nat} {cs : List AV} {y : AV} (ha : tAgg P t = some agg) (hn : tSize P t = some n) (hr : CellsAt g w b o cs) (h : apart agg n off cs = some y) :
    ∃ v, (loadVar t ⟨b, o + off, none⟩).run P w = .ok v w ∧ Rep g w v y := by
  unfold apart at h
  simp only [loadVar, Sem.run_bind, run_isAgg ha, Result.andThen_ok]
  cases agg with
  | true =>
    simp only [if_true] at h
    split at h
    · obtain rfl := Option.some.inj h
      rename_i hle
      have hu : ∀ j, j < n → w.cell? (Addr.add ⟨b, o + off, none⟩ j) = some ((w.cell? ⟨b, o + off + j, none⟩).getD undef) := by
        intro j hj
        obtain ⟨u, hu, _⟩ := hr (off + j) (cs[off + j]'(by omega)) (List.getElem?_eq_getElem (by omega))
        rw [Addr.add_lit, Nat.add_assoc, hu]
        rfl
      refine ⟨.agg ((List.range n).map fun j => (w.cell? ⟨b, o + off + j, none⟩).getD undef).toArray, ?_, .agg _ _ (by simp; omega) ?_⟩
      · simp only [if_true, Sem.run_bind, run_sizeOf hn, Result.andThen_ok, Sem.run_pure, run_loadCells w _ n _ hu]
      · intro i v z hv hz
        have hi : i < n := by
          have := (List.getElem?_eq_some_iff.1 hz).1
          simp at this
          omega
        rw [List.getElem?_take, if_pos hi, List.getElem?_drop] at hz
        obtain ⟨u, hu, hrep⟩ := hr (off + i) z hz
        simp [hi] at hv
        rw [Nat.add_assoc, hu] at hv
        simp at hv
        subst hv
        exact hrep
    · cases h
  | false =>
    simp only [Bool.false_eq_true, if_false] at h
    obtain ⟨u, hu, hrep⟩ := hr off y h
    refine ⟨u, ?_, hrep⟩
    simp only [Bool.false_eq_true, if_false, run_load, hu]
theorem live_row {H : AHeap} {id gen : Nat} {e : TypeId} {cs : List AV} (hS : Sim g w H) (h : H.get id = some (.row e gen cs)) {b : Nat} (hb : g.m id gen = some b) : CellsAt g w b 0 cs := by
  obtain ⟨b', cur, lo, hi, h1, h2, h3, h4, h5⟩ := hS.live id _ h
  rw [hb] at h1
  obtain rfl := Option.some.inj h1
  intro i y hy
  obtain ⟨u, hu, hrep⟩ := h5 i y hy
  refine ⟨u, ?_, hrep⟩
  simp [World.cell?, h2, hu]
theorem run_aload {H : AHeap} (hS : Sim g w H) {t : TypeId} {agg : Bool} {n : Nat} {v : Value} {x y : AV} (ha : tAgg P t = some agg) (hn : tSize P t = some n) (hx : Rep g w v x) (h : aload H agg n x = some y) :
    ∃ u, (Instr.loadAt t v).run P w = .ok u w ∧ Rep g w u y := by
  unfold aload at h
  split at h
  · cases hx
    rename_i id gen off b hb
    split at h
    · rename_i e g' cs hg
      split at h
      · rename_i hgen; subst hgen
        have := run_loadVar ha hn (live_row hS hg hb) h
        simpa [Instr.loadAt, Instr.sureAddr] using this
      · cases h
    · cases h
  · cases hx
    rename_i ys b o u h1 h2 h3
    have hc : CellsAt g w b o ys := fun i z hz => ⟨u i, h2 i (List.getElem?_eq_some_iff.1 hz).1, h3 i z hz⟩
    have := run_loadVar (off := 0) ha hn hc h
    simpa [Instr.loadAt, Instr.sureAddr] using this
  · cases h
end
end Go.Proofs.Ytblflecalomgfaa.AL
