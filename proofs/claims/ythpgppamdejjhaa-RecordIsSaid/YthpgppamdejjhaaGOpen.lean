/- How an argument of a printed kind is opened: what reads as data of a type is of that kind. Over any program. -/
import Derived.ChangeArms
import Derived.ProofKit
import Derived.Test.YthpgppamdejjhaaWWords
set_option linter.unusedVariables false
set_option linter.unusedSimpArgs false
namespace Go.Proofs.Ythpgppamdejjhaa.O
open Go.RowKit Go.Proofs.YthpgppamdejjhaaW.PrintWords
section
variable {P : Program} {α β : Type}
/-- What reads as data of type t (with n levels to spare) is of kind d, and well formed. -/
def OpensAt (P : Program) (t : TypeId) (d : Kd α) (wf : α → Prop) (n : Nat) : Prop :=
  ∀ (H : Type) (enc : TypeId × Value → H) (W : World) (cs : List Value) (x : DataW H × List MemPlace), DataW.trod enc P W 0 (fun _ => true) true n t cs = some x → ∃ a, d.K W a cs ∧ wf a
def Opens (P : Program) (t : TypeId) (d : Kd α) (wf : α → Prop) : Prop := ∀ n, OpensAt P t d wf n
theorem opens_int {t : TypeId} {k : IntKind} (hu : P.underlying t = some (.int k)) : Opens P t (Kd.int k) (fun n => (Lit.int k n).wf = true) := by
  intro n H enc W cs x h
  obtain ⟨m, rfl, _, hw⟩ := DataW.trod_int hu h
  exact ⟨m, rfl, hw⟩
theorem opens_bool {t : TypeId} (hu : P.underlying t = some .bool) : Opens P t Kd.bool (fun _ => True) := by
  intro n H enc W cs x h
  obtain ⟨b, rfl, _⟩ := DataW.trod_bool hu h
  exact ⟨b, rfl, trivial⟩
theorem opens_string {t : TypeId} (hu : P.underlying t = some .string) : Opens P t Kd.string (fun s => s.size ≤ 9223372036854775807) := by
  intro n H enc W cs x h
  obtain ⟨s, rfl, _, hs⟩ := DataW.trod_string hu h
  exact ⟨s, rfl, hs⟩
theorem mapM_range {γ : Type} {f : Nat → Option γ} {n : Nat} {l : List γ} (h : (List.range n).mapM f = some l) : l.length = n ∧ ∀ i, i < n → f i = l[i]? := by
  have h1 := mapM_some_length h
  refine ⟨by simpa using h1, fun i hi => ?_⟩
  have := mapM_some_get h i i (by simp [hi])
  simpa using this
theorem cells_at {W : World} {a : Addr} {n : Nat} {cs : List Value} (h : W.cells? 0 a n = some cs) : cs.length = n ∧ ∀ i u, cs[i]? = some u → W.cell? (a.add i) = some u := by
  unfold World.cells? at h
  rw [if_pos (Nat.zero_le _)] at h
  obtain ⟨h1, h2⟩ := mapM_range h
  refine ⟨h1, fun i u hu => ?_⟩
  have hi : i < n := by rw [← h1]; exact (List.getElem?_eq_some_iff.1 hu).1
  exact (h2 i hi).trans hu
theorem add_add (a : Addr) (i j : Nat) : (a.add i).add j = a.add (i + j) := by
  unfold Addr.add
  by_cases hi : i = 0
  · subst hi; simp
  · by_cases hj : j = 0
    · subst hj; simp
    · simp [hi, hj, show i + j ≠ 0 by omega, Nat.add_assoc]
theorem choose_list {γ : Type} {Q : Nat → γ → Prop} (n : Nat) (h : ∀ i, i < n → ∃ a, Q i a) : ∃ l : List γ, l.length = n ∧ ∀ i a, l[i]? = some a → Q i a := by
  induction n with
  | zero => exact ⟨[], rfl, fun i a h => by simp at h⟩
  | succ n ih =>
    obtain ⟨l, hl, hq⟩ := ih (fun i hi => h i (by omega))
    obtain ⟨a, ha⟩ := h n (by omega)
    refine ⟨l ++ [a], by simp [hl], fun i b hb => ?_⟩
    by_cases hi : i < n
    · rw [List.getElem?_append_left (by omega)] at hb
      exact hq i b hb
    · have hi2 : i = n := by
        have := (List.getElem?_eq_some_iff.1 hb).1
        simp at this
        omega
      subst hi2
      rw [List.getElem?_append_right (by omega), hl] at hb
      simp at hb
      subst hb
      exact ha
theorem opensAt_slice {t e : TypeId} {d : Kd α} {wf : α → Prop} {n : Nat} (hu : P.underlying t = some (.slice e)) (hc : P.cellsOf e = d.sz) (h : OpensAt P e d wf n) :
    OpensAt P t (Kd.slice e d) (fun l => l.length ≤ 9223372036854775807 ∧ ∀ x ∈ l, wf x) (n + 1) := by
  intro H enc W cs x hx
  rcases DataW.trod_slice hu hx with ⟨rfl, _⟩ | ⟨a, len, cap, elems, rest, m, hm, rfl, _, _, hl, hcap, hlen, he, _, _⟩
  · exact ⟨[], ⟨none, 0, rfl, Nat.le_refl _, Kd.C_nil _ _⟩, by simp, by simp⟩
  · have hnm : n = m := by omega
    subst hnm
    rw [hc] at he
    have h1 : ∀ i, i < len → ∃ p, wf p ∧ ∃ c, c.length = d.sz ∧ d.K W p c ∧ ∀ j u, c[j]? = some u → W.cell? (a.add (i * d.sz + j)) = some u := by
      intro i hi
      have h2 := he i hi
      rw [List.getElem?_eq_getElem (by omega)] at h2
      obtain ⟨c, hcs, hxs⟩ := Option.bind_eq_some_iff.1 h2
      obtain ⟨p, hp, hw⟩ := h H enc W c _ hxs
      obtain ⟨hcl, hcc⟩ := cells_at hcs
      exact ⟨p, hw, c, hcl, hp, fun j u hu => by rw [← add_add]; exact hcc j u hu⟩
    obtain ⟨l, hll, hq⟩ := choose_list len h1
    have hcap' : len ≤ 9223372036854775807 := Nat.le_trans hl hcap
    refine ⟨l, ⟨some a, cap, by rw [hll], by rw [hll]; exact hl, ?_⟩, by omega, fun p hp => ?_⟩
    · refine ⟨rfl, by omega, fun _ => ⟨a, rfl, fun j p hj => ?_⟩⟩
      obtain ⟨_, c, h3, h4, h5⟩ := hq j p hj
      exact ⟨c, h3, h4, h5⟩
    · obtain ⟨i, hi⟩ := List.getElem?_of_mem hp
      exact (hq i p hi).1
theorem opens_slice {t e : TypeId} {d : Kd α} {wf : α → Prop} (hu : P.underlying t = some (.slice e)) (hc : P.cellsOf e = d.sz) (h : Opens P e d wf) :
    Opens P t (Kd.slice e d) (fun l => l.length ≤ 9223372036854775807 ∧ ∀ x ∈ l, wf x) := by
  intro n
  cases n with
  | zero => intro H enc W cs x hx; simp [DataW.trod] at hx
  | succ n => exact opensAt_slice hu hc (h n)
/-- The fields of a struct from one on: their cells, one behind the other from a place on. -/
def FieldsAt (P : Program) (fs : List Field) (o : Nat) (d : Kd α) (wf : α → Prop) (n : Nat) : Prop :=
  ∀ (H : Type) (enc : TypeId × Value → H) (W : World) (cs : List Value), (∀ f ∈ fs, ∃ x, DataW.trod enc P W 0 (fun _ => true) true n f.type ((cs.drop f.offset).take (P.cellsOf f.type)) = some x) → cs.length = o + d.sz → ∃ a, d.K W a (cs.drop o) ∧ wf a
theorem fields_one {f : Field} {o : Nat} {d : Kd α} {wf : α → Prop} {n : Nat} (ho : f.offset = o) (hc : P.cellsOf f.type = d.sz) (h : OpensAt P f.type d wf n) : FieldsAt P [f] o d wf n := by
  intro H enc W cs hf hl
  obtain ⟨x, hx⟩ := hf f (by simp)
  obtain ⟨a, ha, hw⟩ := h H enc W _ x hx
  rw [ho, hc, List.take_of_length_le (by simp; omega)] at ha
  exact ⟨a, ha, hw⟩
theorem fields_cons {f : Field} {fs : List Field} {o : Nat} {d : Kd α} {d2 : Kd β} {wf : α → Prop} {wf2 : β → Prop} {n : Nat} (ho : f.offset = o) (hc : P.cellsOf f.type = d.sz) (h : OpensAt P f.type d wf n) (h2 : FieldsAt P fs (o + d.sz) d2 wf2 n) :
    FieldsAt P (f :: fs) o (Kd.pair d d2) (fun x => wf x.1 ∧ wf2 x.2) n := by
  intro H enc W cs hf hl
  have hsz : (Kd.pair d d2).sz = d.sz + d2.sz := rfl
  obtain ⟨x, hx⟩ := hf f (by simp)
  obtain ⟨a, ha, hw⟩ := h H enc W _ x hx
  obtain ⟨b, hb, hw2⟩ := h2 H enc W cs (fun g hg => hf g (by simp [hg])) (by omega)
  refine ⟨(a, b), ⟨_, _, ?_, ha, hb⟩, hw, hw2⟩
  rw [ho, hc, ← List.drop_drop, List.take_append_drop]
theorem opensAt_struct {t : TypeId} {fs : Array Field} {d : Kd α} {wf : α → Prop} {n : Nat} (hu : P.underlying t = some (.struct fs)) (hc : P.cellsOf t = d.sz) (h : FieldsAt P fs.toList 0 d wf n) : OpensAt P t d wf (n + 1) := by
  intro H enc W cs x hx
  obtain ⟨xs, m, hm, _, hl, hxl, hxs⟩ := DataW.trod_struct hu hx
  have hnm : n = m := by omega
  subst hnm
  obtain ⟨a, ha, hw⟩ := h H enc W cs (fun f hf => by
    obtain ⟨i, hi⟩ := List.getElem?_of_mem hf
    have hi' : fs[i]? = some f := by simpa using hi
    have hlt : i < xs.length := by rw [hxl]; exact (Array.getElem?_eq_some_iff.1 hi').1
    exact ⟨xs[i], (hxs i f hi').trans (List.getElem?_eq_getElem hlt)⟩) (by omega)
  exact ⟨a, ha, hw⟩
theorem opens_struct {t : TypeId} {fs : Array Field} {d : Kd α} {wf : α → Prop} (hu : P.underlying t = some (.struct fs)) (hc : P.cellsOf t = d.sz) (h : ∀ n, FieldsAt P fs.toList 0 d wf n) : Opens P t d wf := by
  intro n
  cases n with
  | zero => intro H enc W cs x hx; simp [DataW.trod] at hx
  | succ n => exact opensAt_struct hu hc (h n)
theorem opensAt_iso {t : TypeId} {d : Kd α} {wf : α → Prop} {f : β → α} {g : α → β} {n : Nat} (hfg : ∀ x, f (g x) = x) (h : OpensAt P t d wf n) : OpensAt P t (Kd.iso d f) (fun y => wf (f y)) n := by
  intro H enc W cs x hx
  obtain ⟨a, ha, hw⟩ := h H enc W cs x hx
  exact ⟨g a, by show d.K W (f (g a)) cs; rw [hfg]; exact ha, by show wf (f (g a)); rw [hfg]; exact hw⟩
theorem opens_iso {t : TypeId} {d : Kd α} {wf : α → Prop} {f : β → α} {g : α → β} (hfg : ∀ x, f (g x) = x) (h : Opens P t d wf) : Opens P t (Kd.iso d f) (fun y => wf (f y)) := fun n => opensAt_iso hfg (h n)
theorem opens_mono {t : TypeId} {d : Kd α} {wf wf' : α → Prop} (hw : ∀ a, wf a → wf' a) (h : Opens P t d wf) : Opens P t d wf' := by
  intro n H enc W cs x hx
  obtain ⟨a, ha, hwa⟩ := h n H enc W cs x hx
  exact ⟨a, ha, hw a hwa⟩
end
end Go.Proofs.Ythpgppamdejjhaa.O
