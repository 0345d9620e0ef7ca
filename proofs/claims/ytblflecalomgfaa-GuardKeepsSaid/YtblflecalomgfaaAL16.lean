/- Results that are rows of one's own; slices that grow by appending. -/
import Derived.Test.YtblflecalomgfaaAL15
set_option linter.unusedVariables false
set_option linter.unusedSimpArgs false
namespace Go.Proofs.Ytblflecalomgfaa.AL
open Go
section
variable {P : Program} {H H0 H1 : AHeap} {K : AV → AHeap → Prop} {l : List AObj}
/-- Nothing but rows of one's own differs. -/
def Own (H H1 : AHeap) : Prop := H1.trunc H.next = H ∧ (H.within H.next → H1.within H.next)
theorem own_hp : Own H (hp H l) := ⟨hp_trunc _ _, hp_within _ _⟩
theorem own_kill (i : Nat) (h : Own H H1) : Own H (H1.kill (H.next + i)) := by
  refine ⟨by rw [trunc_kill _ _ _ (by omega)]; exact h.1, fun hs id o hid ho => ?_⟩
  rw [kill_get_ne _ _ _ (by omega)] at ho
  exact h.2 hs id o hid ho
theorem aret_own {y y1 : AV} (hS : Shut H0 y H1 y1) (ho : Own H H1) (hs : H.within H.next) (hu : y1.under H.next) (hk : K y1 H) : ARet H.next K y H0 :=
  ⟨H1, y1, H.next, hS, Nat.le_refl _, hu, ho.2 hs, by rw [ho.1]; exact hk⟩
theorem shut_wr {i gen len sz : Nat} {e : TypeId} {cs xs : List AV} (hrow : l[i]? = some (.row e gen cs)) (hx : ∀ x ∈ xs, x.cells.length = sz) (hn : xs.length = len) (hc : cs = xs.flatMap AV.cells) :
    Shut (hp H l) (.wr (H.next + i) gen 0 len sz) ((hp H l).kill (H.next + i)) (.imm sz xs) := by
  refine .row _ _ _ _ _ _ e cs xs (by rw [hp_get, hrow]) hx hn ?_
  subst hc
  rw [List.drop_zero, List.take_of_length_le]
  rw [flat_length _ _ hx, hn]
  exact Nat.le_refl _
theorem flat_one : ∀ (xs : List AV), (∀ x ∈ xs, x.cells = [x]) → xs.flatMap AV.cells = xs
  | [], _ => rfl
  | x :: xs, h => by
    rw [List.flatMap_cons, h x (by simp), flat_one xs (fun y hy => h y (by simp [hy]))]
    rfl
/-- A list's elements as one-celled values. -/
theorem map_one {α : Type} (f : α → AV) (hf : ∀ a, (f a).cells = [f a]) (xs : List α) : (xs.map f).flatMap AV.cells = xs.map f :=
  flat_one _ (fun x hx => by obtain ⟨a, _, rfl⟩ := List.mem_map.1 hx; exact hf a)
theorem under_map {α : Type} (f : α → AV) (hf : ∀ a, (f a).cells = [f a]) (n : Nat) (hu : ∀ a, (f a).under n) (sz : Nat) (xs : List α) : (AV.imm sz (xs.map f)).under n :=
  .imm _ _ (fun x hx c hc => by
    obtain ⟨a, _, rfl⟩ := List.mem_map.1 hx
    rw [hf a] at hc
    obtain rfl := List.mem_singleton.1 hc
    exact hu a)
/-- A slice that has grown k times by m elements, and its row. -/
def slv (n m sz : Nat) : Nat → AV
  | 0 => .nils
  | k + 1 => .wr n k 0 ((k + 1) * m) sz
def slh (e : TypeId) : Nat → List AV → List AObj
  | 0, _ => []
  | k + 1, cs => [.row e k cs]
theorem aapp_slv {e : TypeId} {sz b m k : Nat} {cs xs : List AV} (hcs : cs.length = k * m * sz) (hx : ∀ x ∈ xs, x.cells.length = sz) (hm : xs.length = m) (h0 : 0 < m) (h1 : (xs.flatMap AV.cells).all AV.one = true) (hb : (k + 1) * m * b ≤ 140737488355328) :
    aapp e sz b (hp H (l ++ slh e k cs)) (slv (H.next + l.length) m sz k) (.imm sz xs) = some (slv (H.next + l.length) m sz (k + 1), hp H (l ++ slh e (k + 1) (cs ++ xs.flatMap AV.cells))) := by
  have hc : acells (hp H (l ++ slh e k cs)) sz (.imm sz xs) = some (m, xs.flatMap AV.cells) := by
    simp only [acells, if_true, hm]
  unfold aapp
  rw [hc]
  simp only [h1, if_true]
  cases k with
  | zero =>
    have hnil : cs = [] := List.length_eq_zero_iff.1 (by rw [hcs]; simp)
    subst hnil
    simp only [slv, slh, if_neg (Nat.ne_of_gt h0), List.append_nil, Nat.zero_add, Nat.one_mul] at hb ⊢
    rw [if_pos hb, hp_push, hp_next]
    rfl
  | succ k =>
    simp only [slv, slh]
    rw [hp_get, List.getElem?_append_right (Nat.le_refl _), Nat.sub_self, List.getElem?_cons_zero]
    simp only
    rw [if_pos ⟨trivial, trivial, trivial, hcs, by rw [Nat.succ_mul (k + 1)] at hb; exact hb⟩, hp_set, List.set_append_right _ _ (Nat.le_refl _), Nat.sub_self, List.set_cons_zero, Nat.succ_mul (k + 1)]
/-- The same, where it is one's only row. -/
theorem aapp_slv0 {e : TypeId} {sz b m k : Nat} {cs xs : List AV} (hcs : cs.length = k * m * sz) (hx : ∀ x ∈ xs, x.cells.length = sz) (hm : xs.length = m) (h0 : 0 < m) (h1 : (xs.flatMap AV.cells).all AV.one = true) (hb : (k + 1) * m * b ≤ 140737488355328) :
    aapp e sz b (hp H (slh e k cs)) (slv (H.next + 0) m sz k) (.imm sz xs) = some (slv (H.next + 0) m sz (k + 1), hp H (slh e (k + 1) (cs ++ xs.flatMap AV.cells))) :=
  aapp_slv (l := []) hcs hx hm h0 h1 hb
theorem shut_slv {e : TypeId} {sz m k : Nat} {cs xs : List AV} (hx : ∀ x ∈ xs, x.cells.length = sz) (hn : xs.length = k * m) (hc : cs = xs.flatMap AV.cells) (h0 : 0 < k * m) :
    Shut (hp H (slh e k cs)) (slv (H.next + 0) m sz k) ((hp H (slh e k cs)).kill (H.next + 0)) (.imm sz xs) := by
  cases k with
  | zero => simp at h0
  | succ k => exact shut_wr (i := 0) rfl hx hn hc
/-- What a slice that was grown from nothing is to its readers. -/
def immOf (sz : Nat) (xs : List AV) : AV := if xs = [] then .nils else .imm sz xs
theorem aret_slv {e : TypeId} {sz m k : Nat} {cs xs : List AV} (hx : ∀ x ∈ xs, x.cells.length = sz) (hn : xs.length = k * m) (hm : 0 < m) (hc : cs = xs.flatMap AV.cells) (hs : H.within H.next) (hu : (AV.imm sz xs).under H.next)
    (f : AV → AV) (hf : ∀ y H0 H1 y1, Shut H0 y H1 y1 → Shut H0 (f y) H1 (f y1)) (hfu : ∀ y, y.under H.next → (f y).under H.next) (hk : K (f (immOf sz xs)) H) : ARet H.next K (f (slv (H.next + 0) m sz k)) (hp H (slh e k cs)) := by
  by_cases h : xs = []
  · have hk0 : k = 0 := by
      subst h
      rcases Nat.mul_eq_zero.1 hn.symm with h1 | h1
      · exact h1
      · omega
    subst hk0
    have : immOf sz xs = .nils := by simp [immOf, h]
    rw [this] at hk
    exact aret_own (.refl _ _) own_hp hs (hfu _ .nils) hk
  · have : immOf sz xs = .imm sz xs := by simp [immOf, h]
    rw [this] at hk
    have h0 : 0 < k * m := by
      rw [← hn]
      exact List.length_pos_iff.2 h
    exact aret_own (hf _ _ _ _ (shut_slv hx hn hc h0)) (own_kill 0 own_hp) hs (hfu _ hu) hk
end
end Go.Proofs.Ytblflecalomgfaa.AL
