/- Rows of laws with configurations, and with arrays of texts. -/
import Derived.Test.YtfiihgaohihppaaDoorQConfBackALOpenTr
import Derived.Test.YtfiihgaohihppaaDoorQConfBackALConf1
import Derived.OpenShut
set_option linter.unusedSimpArgs false
set_option linter.unusedVariables false
namespace Go.Proofs.YtfiihgaohihppaaDoor.AL
open Go Go.Proofs Go.RowKit
theorem opens_arrS {P : Program} {t e : TypeId} {n : Nat} (hu : P.underlying t = some (.array n e)) (he : P.underlying e = some .string) (hce : P.cellsOf e = 1) (hct : P.cellsOf t = n) :
    Opens P t (fun zs => ∃ ss : List ByteArray, zs = ss.map AV.str ∧ ss.length = n ∧ ∀ s ∈ ss, s.size ≤ 9223372036854775807) := by
  intro fuel H enc W cs x h
  obtain ⟨xs, m, rfl, rfl, hl, hx, hi⟩ := DataW.trod_array hu h
  rw [hct] at hl
  have key : ∀ i (hi' : i < cs.length), ∃ z : ByteArray, cs[i] = .string z ∧ z.size ≤ 9223372036854775807 := by
    intro i hi'
    have h0 := hi i (by omega)
    rw [hce, Nat.mul_one, List.getElem?_eq_getElem (by omega), List.drop_eq_getElem_cons hi', List.take_succ_cons, List.take_zero] at h0
    obtain ⟨n0, e0, _, w0⟩ := DataW.trod_string he h0
    have f0 : [cs[i]] = [Value.string n0] := e0
    injection f0 with g0 _
    exact ⟨n0, g0, w0⟩
  have all : ∀ (l : List Value), (∀ v ∈ l, ∃ z : ByteArray, v = .string z ∧ z.size ≤ 9223372036854775807) → ∃ ns : List ByteArray, l = ns.map Value.string ∧ ∀ m ∈ ns, m.size ≤ 9223372036854775807 := by
    intro l
    induction l with
    | nil => exact fun _ => ⟨[], rfl, by simp⟩
    | cons v l ih =>
      intro hv
      obtain ⟨z, rfl, hz⟩ := hv v (by simp)
      obtain ⟨ns, rfl, hns⟩ := ih (fun u hu => hv u (by simp [hu]))
      exact ⟨z :: ns, rfl, by simpa using ⟨hz, hns⟩⟩
  obtain ⟨ns, rfl, hns⟩ := all cs (fun v hv => by
    obtain ⟨i, hi', rfl⟩ := List.getElem_of_mem hv
    exact key i hi')
  refine ⟨ns.map AV.str, ⟨by simp, fun i v y hv hy => ?_⟩, ns, rfl, by simpa using hl, hns⟩
  rw [List.getElem?_map] at hv hy
  obtain ⟨a, ha, rfl⟩ := Option.map_eq_some_iff.1 hv
  obtain ⟨b, hb, rfl⟩ := Option.map_eq_some_iff.1 hy
  rw [ha] at hb
  obtain rfl := Option.some.inj hb
  exact .str _
open Go.WideShapes in
theorem okWide_array {P : Program} {w : World} {r : Reach} {base : Nat} {t e : TypeId} {n : Nat} {v : Value} (ht : P.underlying t = some (.array n e)) (h : Value.okWide P w r base t v) : ∃ cs, v = .agg cs ∧ cs.size = P.cellsOf t := by
  simp only [Value.okWide, ht] at h
  obtain ⟨cs, h1, h2, _⟩ := h
  exact ⟨cs, h1, h2⟩
def YArrS2 (zs : List AV) : Prop := ∃ ss : List ByteArray, zs = ss.map AV.str ∧ ss.length = 2 ∧ ∀ s ∈ ss, s.size ≤ 9223372036854775807
theorem openArrS2 : Opens Tryd.prog 51 YArrS2 := opens_arrS Tryd.underlying51 Tryd.underlying9 (by kernel_rfl) (by kernel_rfl)
def YI (a : List AV) : Prop := ∃ n, (Lit.int .i64 n).wf = true ∧ a = [.int .i64 n]
def YConf (zs : List AV) : Prop := ∃ a a2 : List AV, zs = a ++ a2 ∧ YStr a ∧ ∃ b b2 : List AV, a2 = b ++ b2 ∧ YStrs b ∧ ∃ c c2 : List AV, b2 = c ++ c2 ∧ YStr c ∧ ∃ d d2 : List AV, c2 = d ++ d2 ∧ YStr d ∧ ∃ e e2 : List AV, d2 = e ++ e2 ∧ YStr e ∧ ∃ f f2 : List AV, e2 = f ++ f2 ∧ YI f ∧ YI f2
theorem openConf : Opens Tryd.prog 54 YConf :=
  opens_struct (sz := 1 + (1 + (1 + (1 + (1 + (1 + 1)))))) Tryd.underlying54 (by kernel_rfl) (fun n => fields_cons rfl (by kernel_rfl) (opens_str Tryd.underlying9 n) (fields_cons rfl (by kernel_rfl) (openStrs n) (fields_cons rfl (by kernel_rfl) (opens_str Tryd.underlying9 n) (fields_cons rfl (by kernel_rfl) (opens_str Tryd.underlying9 n) (fields_cons rfl (by kernel_rfl) (opens_str Tryd.underlying9 n) (fields_cons rfl (by kernel_rfl) (opens_int Tryd.underlying3 n) (fields_one rfl (by kernel_rfl) (opens_int Tryd.underlying3 n))))))))
def YConfs (zs : List AV) : Prop := ∃ (k : Nat) (l : List Cf), zs = [slA k 7 (l.map Cf.V)] ∧ l.length ≤ 9223372036854775807 ∧ ∀ c ∈ l, CfOk c
theorem openConfs : Opens Tryd.prog 50 YConfs :=
  opens_slQ (f := Cf.cells) (g := Cf.V) (Q := CfOk) .agg Tryd.underlying50 (by kernel_rfl) (by decide) (fun ys hy => by
    obtain ⟨_, _, rfl, ⟨s1, _, rfl⟩, _, _, rfl, ⟨k, ls, rfl, hls⟩, _, _, rfl, ⟨s2, _, rfl⟩, _, _, rfl, ⟨s3, _, rfl⟩, _, _, rfl, ⟨s4, _, rfl⟩, _, _, rfl, ⟨n1, _, rfl⟩, ⟨n2, _, rfl⟩⟩ := hy
    exact ⟨⟨s1.data.toList, k, ls, s2.data.toList, s3.data.toList, s4.data.toList, n1, n2⟩, hls, by simp [Cf.cells, B_of]⟩) (fun _ => rfl) (fun _ => rfl) openConf
end Go.Proofs.YtfiihgaohihppaaDoor.AL

