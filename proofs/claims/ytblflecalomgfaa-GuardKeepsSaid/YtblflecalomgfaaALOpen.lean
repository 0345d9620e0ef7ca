/- How a law's arguments are opened: what reads as data of a type is told by the plain picture. Over any program. -/
import Derived.Test.YtblflecalomgfaaALRow
import Derived.ChangeArms
import Derived.ProofKit
set_option linter.unusedVariables false
set_option linter.unusedSimpArgs false
namespace Go.Proofs.Ytblflecalomgfaa.AL
open Go Go.RowKit
section
variable {P : Program}
def RepL (W : World) (cs : List Value) (ys : List AV) : Prop := cs.length = ys.length ∧ ∀ (i : Nat) (v : Value) (y : AV), cs[i]? = some v → ys[i]? = some y → Rep (g0 W) W v y
theorem repL_one {W : World} {v : Value} {y : AV} (h : Rep (g0 W) W v y) : RepL W [v] [y] := ⟨rfl, fun i u z hu hz => by
  cases i with
  | zero => simp at hu hz; subst hu; subst hz; exact h
  | succ i => simp at hu⟩
/-- What reads as data of type t (with n levels to spare) has cells of which Y holds. -/
def OpenAt (P : Program) (t : TypeId) (Y : List AV → Prop) (n : Nat) : Prop :=
  ∀ (H : Type) (enc : TypeId × Value → H) (W : World) (cs : List Value) (x : DataW H × List MemPlace), DataW.trod enc P W 0 (fun _ => true) true n t cs = some x → ∃ ys, RepL W cs ys ∧ Y ys
def Opens (P : Program) (t : TypeId) (Y : List AV → Prop) : Prop := ∀ n, OpenAt P t Y n
theorem opens_int {t : TypeId} {k : IntKind} (hu : P.underlying t = some (.int k)) : Opens P t (fun ys => ∃ n, (Lit.int k n).wf = true ∧ ys = [.int k n]) := by
  intro n H enc W cs x h
  obtain ⟨m, rfl, _, hw⟩ := DataW.trod_int hu h
  exact ⟨_, repL_one (.int k m), m, hw, rfl⟩
theorem opens_bool {t : TypeId} (hu : P.underlying t = some .bool) : Opens P t (fun ys => ∃ b, ys = [.bool b]) := by
  intro n H enc W cs x h
  obtain ⟨b, rfl, _⟩ := DataW.trod_bool hu h
  exact ⟨_, repL_one (.bool b), b, rfl⟩
theorem opens_str {t : TypeId} (hu : P.underlying t = some .string) : Opens P t (fun ys => ∃ s, s.size ≤ 9223372036854775807 ∧ ys = [.str s]) := by
  intro n H enc W cs x h
  obtain ⟨s, rfl, _, hs⟩ := DataW.trod_string hu h
  exact ⟨_, repL_one (.str s), s, hs, rfl⟩
theorem mapM_range' {γ : Type} {f : Nat → Option γ} {n : Nat} {l : List γ} (h : (List.range n).mapM f = some l) : l.length = n ∧ ∀ i, i < n → f i = l[i]? := by
  have h1 := mapM_some_length h
  refine ⟨by simpa using h1, fun i hi => ?_⟩
  have := mapM_some_get h i i (by simp [hi])
  simpa using this
theorem cells_at' {W : World} {a : Addr} {n : Nat} {cs : List Value} (h : W.cells? 0 a n = some cs) : cs.length = n ∧ ∀ i u, cs[i]? = some u → W.cell? (a.add i) = some u := by
  unfold World.cells? at h
  rw [if_pos (Nat.zero_le _)] at h
  obtain ⟨h1, h2⟩ := mapM_range' h
  refine ⟨h1, fun i u hu => ?_⟩
  have hi : i < n := by rw [← h1]; exact (List.getElem?_eq_some_iff.1 hu).1
  exact (h2 i hi).trans hu
theorem add_add' (a : Addr) (i j : Nat) : (a.add i).add j = a.add (i + j) := by
  unfold Addr.add
  by_cases hi : i = 0
  · subst hi; simp
  · by_cases hj : j = 0
    · subst hj; simp
    · simp [hi, hj, show i + j ≠ 0 by omega, Nat.add_assoc]
theorem choose_list' {γ : Type} {Q : Nat → γ → Prop} (n : Nat) (h : ∀ i, i < n → ∃ a, Q i a) : ∃ l : List γ, l.length = n ∧ ∀ i a, l[i]? = some a → Q i a := by
  induction n with
  | zero => exact ⟨[], rfl, fun i a h => by simp at h⟩
  | succ n ih =>
    obtain ⟨l, hl, hq⟩ := ih (fun i hi => h i (by omega))
    obtain ⟨a, ha⟩ := h n (by omega)
    refine ⟨l ++ [a], by simp [hl], fun i b hb => ?_⟩
    by_cases hi : i < n
    · rw [List.getElem?_append_left (by omega)] at hb
      exact hq i b hb
    · have hi2 : i = n := by
        have := (List.getElem?_eq_some_iff.1 hb).1
        simp at this
        omega
      subst hi2
      rw [List.getElem?_append_right (by omega), hl] at hb
      simp at hb
      subst hb
      exact ha
theorem cell_of {W : World} {a : Addr} {u : Value} (h : W.cell? a = some u) : a.spot = none ∧ a.block < W.heap.size := by
  unfold World.cell? at h
  split at h
  · rename_i hb
    split at h
    · cases h
    · rename_i hs
      exact ⟨by simpa using hs, (Array.getElem?_eq_some_iff.1 hb).1⟩
  · cases h
/-- Slices whose elements are each of sz cells; pk packs an element's cells. -/
theorem openAt_slice {t e : TypeId} {Y : List AV → Prop} {n sz : Nat} (pk : List AV → AV) (hu : P.underlying t = some (.slice e)) (hc : P.cellsOf e = sz) (h0 : 0 < sz) (hpk : ∀ ys, Y ys → (pk ys).cells = ys) (h : OpenAt P e Y n) :
    OpenAt P t (fun zs => zs = [.nils] ∨ zs = [.emp] ∨ ∃ xs : List (List AV), xs ≠ [] ∧ xs.length ≤ 9223372036854775807 ∧ zs = [.imm sz (xs.map pk)] ∧ ∀ ys ∈ xs, Y ys ∧ ys.length = sz) (n + 1) := by
  intro H enc W cs x hx
  rcases DataW.trod_slice hu hx with ⟨rfl, _⟩ | ⟨a, len, cap, elems, rest, m, hm, rfl, _, _, hl, hcap, hlen, he, _, _⟩
  · exact ⟨[.nils], repL_one .nils, .inl rfl⟩
  · have hnm : n = m := by omega
    subst hnm
    rw [hc] at he
    by_cases hz : len = 0
    · subst hz
      exact ⟨[.emp], repL_one (.emp a cap), .inr (.inl rfl)⟩
    have h1 : ∀ i, i < len → ∃ p : List AV, Y p ∧ p.length = sz ∧ ∀ j, j < sz → ∃ u, W.cell? (a.add (i * sz + j)) = some u ∧ ∀ y, p[j]? = some y → Rep (g0 W) W u y := by
      intro i hi
      have h2 := he i hi
      rw [List.getElem?_eq_getElem (by omega)] at h2
      obtain ⟨c, hcs, hxs⟩ := Option.bind_eq_some_iff.1 h2
      obtain ⟨p, hp, hw⟩ := h H enc W c _ hxs
      obtain ⟨hcl, hcc⟩ := cells_at' hcs
      refine ⟨p, hw, by rw [← hp.1, hcl], fun j hj => ?_⟩
      have hj2 : j < c.length := by omega
      refine ⟨c[j], by rw [← add_add']; exact hcc j _ (List.getElem?_eq_getElem hj2), fun y hy => hp.2 j _ y (List.getElem?_eq_getElem hj2) hy⟩
    obtain ⟨l, hll, hq⟩ := choose_list' len h1
    have hq' : ∀ ys ∈ l, Y ys ∧ ys.length = sz := by
      intro ys hy
      obtain ⟨i, hi⟩ := List.getElem?_of_mem hy
      exact ⟨(hq i ys hi).1, (hq i ys hi).2.1⟩
    have hspot : a.spot = none ∧ a.block < W.heap.size := by
      obtain ⟨_, _, h3⟩ := hq 0 (l[0]'(by omega)) (List.getElem?_eq_getElem _)
      obtain ⟨u, hu', _⟩ := h3 0 h0
      have := cell_of hu'
      simpa [Addr.add] using this
    obtain ⟨b, o, s⟩ := a
    obtain ⟨hs, hb⟩ := hspot
    simp only at hs hb
    subst hs
    have hcap' : cap ≤ 9223372036854775807 := hcap
    have hnz : l ≠ [] := by intro e; subst e; simp at hll; omega
    refine ⟨[.imm sz (l.map pk)], repL_one ?_, .inr (.inr ⟨l, hnz, by omega, rfl, hq'⟩)⟩
    refine .imm sz (l.map pk) b o len cap (fun k => (W.cell? ⟨b, o + k, none⟩).getD undef) (by simp [hll]) hl hcap hb ?_ ?_ ?_
    · intro x hx
      obtain ⟨ys, hys, rfl⟩ := List.mem_map.1 hx
      rw [hpk ys (hq' ys hys).1]
      exact (hq' ys hys).2
    · intro k hk
      have hi : k / sz < len := (Nat.div_lt_iff_lt_mul h0).2 hk
      obtain ⟨_, _, h3⟩ := hq (k / sz) (l[k / sz]'(by omega)) (List.getElem?_eq_getElem _)
      obtain ⟨u, hu', _⟩ := h3 (k % sz) (Nat.mod_lt _ h0)
      rw [Nat.div_add_mod' k sz, Addr.add_lit] at hu'
      rw [hu']
      rfl
    · intro j x i y hj hi
      rw [List.getElem?_map] at hj
      obtain ⟨ys, hys, rfl⟩ := Option.map_eq_some_iff.1 hj
      obtain ⟨hY, hyl, h3⟩ := hq j ys hys
      rw [hpk ys hY] at hi
      have hi2 : i < sz := by rw [← hyl]; exact (List.getElem?_eq_some_iff.1 hi).1
      obtain ⟨u, hu', h4⟩ := h3 i hi2
      rw [Addr.add_lit] at hu'
      rw [hu']
      exact h4 y hi
theorem opens_slice {t e : TypeId} {Y : List AV → Prop} {sz : Nat} (pk : List AV → AV) (hu : P.underlying t = some (.slice e)) (hc : P.cellsOf e = sz) (h0 : 0 < sz) (hpk : ∀ ys, Y ys → (pk ys).cells = ys) (h : Opens P e Y) :
    Opens P t (fun zs => zs = [.nils] ∨ zs = [.emp] ∨ ∃ xs : List (List AV), xs ≠ [] ∧ xs.length ≤ 9223372036854775807 ∧ zs = [.imm sz (xs.map pk)] ∧ ∀ ys ∈ xs, Y ys ∧ ys.length = sz) := by
  intro n
  cases n with
  | zero => intro H enc W cs x hx; simp [DataW.trod] at hx
  | succ n => exact openAt_slice pk hu hc h0 hpk (h n)
/-- The fields of a struct from one on: their cells, one behind the other from a place on. -/
def FieldsAt (P : Program) (fs : List Field) (o sz : Nat) (Y : List AV → Prop) (n : Nat) : Prop :=
  ∀ (H : Type) (enc : TypeId × Value → H) (W : World) (cs : List Value), (∀ f ∈ fs, ∃ x, DataW.trod enc P W 0 (fun _ => true) true n f.type ((cs.drop f.offset).take (P.cellsOf f.type)) = some x) → cs.length = o + sz → ∃ ys, RepL W (cs.drop o) ys ∧ Y ys
theorem fields_one {f : Field} {o sz : Nat} {Y : List AV → Prop} {n : Nat} (ho : f.offset = o) (hc : P.cellsOf f.type = sz) (h : OpenAt P f.type Y n) : FieldsAt P [f] o sz Y n := by
  intro H enc W cs hf hl
  obtain ⟨x, hx⟩ := hf f (by simp)
  obtain ⟨ys, ha, hw⟩ := h H enc W _ x hx
  rw [ho, hc, List.take_of_length_le (by simp; omega)] at ha
  exact ⟨ys, ha, hw⟩
theorem fields_cons {f : Field} {fs : List Field} {o sz sz2 : Nat} {Y Y2 : List AV → Prop} {n : Nat} (ho : f.offset = o) (hc : P.cellsOf f.type = sz) (h : OpenAt P f.type Y n) (h2 : FieldsAt P fs (o + sz) sz2 Y2 n) :
    FieldsAt P (f :: fs) o (sz + sz2) (fun zs => ∃ ys ys2, zs = ys ++ ys2 ∧ Y ys ∧ Y2 ys2) n := by
  intro H enc W cs hf hl
  obtain ⟨x, hx⟩ := hf f (by simp)
  obtain ⟨ys, ha, hw⟩ := h H enc W _ x hx
  obtain ⟨ys2, hb, hw2⟩ := h2 H enc W cs (fun g hg => hf g (by simp [hg])) (by omega)
  rw [ho, hc] at ha
  have hla : ys.length = sz := by rw [← ha.1]; simp; omega
  refine ⟨ys ++ ys2, ⟨by rw [List.length_append, ← ha.1, ← hb.1]; simp; omega, fun i v y hv hy => ?_⟩, ys, ys2, rfl, hw, hw2⟩
  by_cases hi : i < sz
  · rw [List.getElem?_append_left (by omega)] at hy
    refine ha.2 i v y ?_ hy
    rw [List.getElem?_take, if_pos hi]
    exact hv
  · rw [List.getElem?_append_right (by omega), hla] at hy
    refine hb.2 (i - sz) v y ?_ hy
    rw [List.getElem?_drop] at hv ⊢
    rw [show o + sz + (i - sz) = o + i by omega]
    exact hv
theorem opens_struct {t : TypeId} {fs : Array Field} {sz : Nat} {Y : List AV → Prop} (hu : P.underlying t = some (.struct fs)) (hc : P.cellsOf t = sz) (h : ∀ n, FieldsAt P fs.toList 0 sz Y n) : Opens P t Y := by
  intro n
  cases n with
  | zero => intro H enc W cs x hx; simp [DataW.trod] at hx
  | succ n =>
    intro H enc W cs x hx
    obtain ⟨xs, m, hm, _, hl, hxl, hxs⟩ := DataW.trod_struct hu hx
    have hnm : n = m := by omega
    subst hnm
    obtain ⟨ys, ha, hw⟩ := h n H enc W cs (fun f hf => by
      obtain ⟨i, hi⟩ := List.getElem?_of_mem hf
      have hi' : fs[i]? = some f := by simpa using hi
      have hlt : i < xs.length := by rw [hxl]; exact (Array.getElem?_eq_some_iff.1 hi').1
      exact ⟨xs[i], (hxs i f hi').trans (List.getElem?_eq_getElem hlt)⟩) (by omega)
    exact ⟨ys, ha, hw⟩
theorem opens_mono {t : TypeId} {Y Y' : List AV → Prop} (hw : ∀ a, Y a → Y' a) (h : Opens P t Y) : Opens P t Y' := by
  intro n H enc W cs x hx
  obtain ⟨a, ha, hwa⟩ := h n H enc W cs x hx
  exact ⟨a, ha, hw a hwa⟩
theorem rep_agg {W : World} {cs : Array Value} {ys : List AV} (h : RepL W cs.toList ys) : Rep (g0 W) W (.agg cs) (.agg ys) :=
  .agg cs ys (by simpa using h.1) (fun i v y hv hy => h.2 i v y (by simpa using hv) hy)
theorem rep_cell {W : World} {v : Value} {y : AV} (h : RepL W [v] [y]) : Rep (g0 W) W v y := h.2 0 v y rfl rfl
end
end Go.Proofs.Ytblflecalomgfaa.AL
