/- Trees that are handed in. -/
import Derived.Test.YtfiihgaohihppaaDoorQConfIsALTree1
import Derived.Test.YtfiihgaohihppaaDoorQConfIsALA4
set_option linter.unusedSimpArgs false
set_option linter.unusedVariables false
namespace Go.Proofs.YtfiihgaohihppaaDoor.AL
open Go Go.Proofs
/-! ### trees that are handed in -/
theorem openAt_struct {P : Program} {t : TypeId} {fs : Array Field} {sz n : Nat} {Y : List AV → Prop} (hu : P.underlying t = some (.struct fs)) (hc : P.cellsOf t = sz) (h : FieldsAt P fs.toList 0 sz Y n) : OpenAt P t Y (n + 1) := by
  intro H enc W cs x hx
  obtain ⟨xs, m, hm, _, hl, hxl, hxs⟩ := DataW.trod_struct hu hx
  have hnm : n = m := by omega
  subst hnm
  obtain ⟨ys, ha, hw⟩ := h H enc W cs (fun f hf => by
    obtain ⟨i, hi⟩ := List.getElem?_of_mem hf
    have hi' : fs[i]? = some f := by simpa using hi
    have hlt : i < xs.length := by rw [hxl]; exact (Array.getElem?_eq_some_iff.1 hi').1
    exact ⟨xs[i], (hxs i f hi').trans (List.getElem?_eq_getElem hlt)⟩) (by omega)
  exact ⟨ys, ha, hw⟩
theorem openAt_zero {P : Program} {t : TypeId} {fs : Array Field} {Y : List AV → Prop} (hu : P.underlying t = some (.struct fs)) : OpenAt P t Y 0 := by
  intro H enc W cs x hx
  simp [DataW.trod] at hx
theorem openAt_mono {P : Program} {t : TypeId} {Y Y' : List AV → Prop} {n : Nat} (hw : ∀ a, Y a → Y' a) (h : OpenAt P t Y n) : OpenAt P t Y' n := by
  intro H enc W cs x hx
  obtain ⟨a, ha, hwa⟩ := h H enc W cs x hx
  exact ⟨a, ha, hw a hwa⟩
theorem openAt_zsl {P : Program} {t e : TypeId} {Y : List AV → Prop} (hu : P.underlying t = some (.slice e)) : OpenAt P t Y 0 := by
  intro H enc W cs x hx
  simp [DataW.trod] at hx
theorem openAt_slQ {P : Program} {t e : TypeId} {α : Type} {f : α → List AV} {g : α → AV} {Q : α → Prop} {Y : List AV → Prop} {sz n : Nat} (pk : List AV → AV) (hu : P.underlying t = some (.slice e)) (hc : P.cellsOf e = sz) (h0 : 0 < sz) (hY : ∀ ys, Y ys → ∃ a, Q a ∧ ys = f a) (hg : ∀ a, pk (f a) = g a) (hf : ∀ a, (g a).cells = f a) (h : OpenAt P e Y n) :
    OpenAt P t (fun zs => ∃ (k : Nat) (l : List α), zs = [slA k sz (l.map g)] ∧ l.length ≤ 9223372036854775807 ∧ ∀ a ∈ l, Q a) (n + 1) := by
  refine openAt_mono (fun zs hz => ?_) (openAt_slice pk hu hc h0 (fun ys hy => ?_) h)
  · rcases hz with rfl | rfl | ⟨xs, h1, h2, rfl, h3⟩
    · exact ⟨0, [], rfl, by simp, by simp⟩
    · exact ⟨1, [], rfl, by simp, by simp⟩
    · obtain ⟨l, hl, rfl⟩ := map_ofQ hY xs (fun ys hy => (h3 ys hy).1)
      refine ⟨2, l, ?_, by simpa using h2, hl⟩
      rw [List.map_map, show pk ∘ f = g from funext hg]
      cases l <;> rfl
  · obtain ⟨a, hq, rfl⟩ := hY ys hy
    rw [hg, hf]
def YStr (a : List AV) : Prop := ∃ s : ByteArray, s.size ≤ 9223372036854775807 ∧ a = [.str s]
def YPr (zs : List AV) : Prop := ∃ a a2 : List AV, zs = a ++ a2 ∧ YStr a ∧ YStr a2
def PrOk (p : List UInt8 × List UInt8) : Prop := p.1.length ≤ 9223372036854775807 ∧ p.2.length ≤ 9223372036854775807
theorem openPr : Opens Tryd.prog 80 YPr :=
  opens_struct (sz := 1 + 1) Tryd.underlying80 (by kernel_rfl) (fun n => fields_cons rfl (by kernel_rfl) (opens_str Tryd.underlying9 n) (fields_one rfl (by kernel_rfl) (opens_str Tryd.underlying9 n)))
def YPrs (zs : List AV) : Prop := ∃ (k : Nat) (l : List (List UInt8 × List UInt8)), zs = [slA k 2 (l.map propV)] ∧ l.length ≤ 9223372036854775807 ∧ ∀ p ∈ l, PrOk p
theorem openPrs : Opens Tryd.prog 31 YPrs :=
  opens_slQ (f := fun p => [.str (B p.1), .str (B p.2)]) (g := propV) (Q := PrOk) .agg Tryd.underlying31 (by kernel_rfl) (by decide) (fun ys hy => by
    obtain ⟨_, _, rfl, ⟨s, hs, rfl⟩, ⟨s2, hs2, rfl⟩⟩ := hy
    exact ⟨(s.data.toList, s2.data.toList), ⟨hs, hs2⟩, by simp [B_of]⟩) (fun _ => rfl) (fun _ => rfl) openPr
def YTr (zs : List AV) : Prop := ∃ t, TrOk t ∧ zs = t.cells
def YTrs (zs : List AV) : Prop := ∃ (k : Nat) (l : List Tr), zs = [slA k 3 (l.map Tr.V)] ∧ l.length ≤ 9223372036854775807 ∧ ∀ t ∈ l, TrOk t
theorem openAt_tr : ∀ n, OpenAt Tryd.prog 34 YTr n ∧ OpenAt Tryd.prog 32 YTrs n
  | 0 => ⟨openAt_zero Tryd.underlying34, openAt_zsl Tryd.underlying32⟩
  | n + 1 => by
    obtain ⟨ih1, ih2⟩ := openAt_tr n
    refine ⟨?_, ?_⟩
    · refine openAt_mono (fun zs hz => ?_) (openAt_struct (sz := 1 + (1 + 1)) Tryd.underlying34 (by kernel_rfl) (fields_cons rfl (by kernel_rfl) (opens_str Tryd.underlying9 n) (fields_cons rfl (by kernel_rfl) (openPrs n) (fields_one rfl (by kernel_rfl) ih2))))
      obtain ⟨_, _, rfl, ⟨s, hs, rfl⟩, _, _, rfl, ⟨kp, ps, rfl, hps, hpo⟩, ⟨kk, ks, rfl, hks, hko⟩⟩ := hz
      refine ⟨.mk s.data.toList kp ps kk ks, .mk _ _ _ _ _ hs hps hpo hks hko, ?_⟩
      rw [Tr.cells_is]
      rfl
    · exact openAt_slQ (f := Tr.cells) (g := Tr.V) (Q := TrOk) .agg Tryd.underlying32 (by kernel_rfl) (by decide) (fun ys hy => hy) (fun _ => rfl) (fun _ => rfl) ih1
theorem openTr : Opens Tryd.prog 34 YTr := fun n => (openAt_tr n).1
end Go.Proofs.YtfiihgaohihppaaDoor.AL

