/- Memory made and written: how the plain picture goes along with the machine's blocks. -/
import Derived.Test.YtblflecalomgfaaAL7
import Derived.Laws.AppendOwn
set_option linter.unusedVariables false
set_option linter.unusedSimpArgs false
namespace Go.Proofs.Ytblflecalomgfaa.AL
open Go
section
variable {P : Program} {g : Ghost} {w w' : World} {H : AHeap}
theorem RepObj.grow {g' : Ghost} (h : Grow g w g' w') {id : Nat} {o : AObj} (hr : RepObj g w id o) (hb : ∀ b, g.m id o.gen = some b → w'.heap[b]? = w.heap[b]?) : RepObj g' w' id o := by
  cases o with
  | row e gen cs =>
    obtain ⟨b, cur, lo, hi, h1, h2, h3, h4, h5⟩ := hr
    refine ⟨b, cur, lo, hi, h.m _ _ _ h1, by rw [hb b h1]; exact h2, h3, h4, fun i y hy => ?_⟩
    obtain ⟨u, hu, hrep⟩ := h5 i y hy
    exact ⟨u, hu, hrep.grow h⟩
  | map es =>
    obtain ⟨b, ms, clock, h1, h2, h3, h4⟩ := hr
    exact ⟨b, ms, clock, h.m _ _ _ h1, by rw [hb b h1]; exact h2, h3, fun i e x he hx => ⟨(h4 i e x he hx).1.grow h, (h4 i e x he hx).2.grow h⟩⟩
theorem RepObj.ext {g' : Ghost} (h : Ext g w g' w') {id : Nat} {o : AObj} (hr : RepObj g w id o) (hb : ∀ b, g.m id o.gen = some b → w'.heap[b]? = w.heap[b]?) : RepObj g' w' id o := hr.grow h.grow hb
/-- The ghost with one row more. -/
def Ghost.add (g : Ghost) (id gen b : Nat) : Ghost where
  m i k := if i = id ∧ k = gen then some b else g.m i k
  Z := g.Z
/-- A new block. -/
theorem shape_push (o : Obj) (hh : w'.heap = w.heap.push o) {b : Nat} {s : TypeId × Nat} (h : w.shape? b = some s) : w'.shape? b = some s := by
  unfold World.shape? at h ⊢
  have hb : b < w.heap.size := by
    rcases Nat.lt_or_ge b w.heap.size with h1 | h1
    · exact h1
    · rw [Array.getElem?_eq_none h1] at h; cases h
  rw [hh, Array.getElem?_push, if_neg (by omega)]
  exact h
theorem heap_push_old (o : Obj) (hh : w'.heap = w.heap.push o) {b : Nat} (hb : b < w.heap.size) : w'.heap[b]? = w.heap[b]? := by
  rw [hh, Array.getElem?_push, if_neg (by omega)]
theorem ext_push {o : Obj} (hS : Sim g w H) (hh : w'.heap = w.heap.push o) (h1 : w'.os = w.os) (h2 : w'.tape = w.tape) (h3 : w'.output = w.output) {id gen : Nat} (hn : g.m id gen = none) (b : Nat) (hbn : w.heap.size ≤ b) : Ext g w (g.add id gen b) w' := by
  refine ⟨fun i k b' hb => ?_, fun _ h => h, fun b' hb => heap_push_old o hh (hS.zlt b' hb), fun b' s h => shape_push o hh h, by rw [hh]; simp, h1, h2, h3, fun k hk q => ?_, fun k hk _ => heap_push_old o hh hk⟩
  rotate_left
  · rcases q with q | ⟨i, j, q⟩
    · exact .inl q
    · simp only [Ghost.add] at q
      split at q
      · obtain rfl := Option.some.inj q
        omega
      · exact .inr ⟨i, j, q⟩
  simp only [Ghost.add]
  split
  · rename_i hc
    obtain ⟨rfl, rfl⟩ := hc
    rw [hn] at hb; cases hb
  · exact hb
theorem m_new (hS : Sim g w H) (gen : Nat) : g.m H.next gen = none := by
  cases h : g.m H.next gen with
  | none => rfl
  | some b => exact absurd (hS.mlt _ _ _ h).1 (by omega)
theorem sim_push {e : TypeId} {us : Array Value} {ys : List AV} {pad : Array Value} {lo hi : Nat} (hS : Sim g w H) (hr : Reps g w us ys) (hh : w'.heap = w.heap.push (.cells (us ++ pad) e (lo, hi))) (hfr : ∀ i, i < (us ++ pad).size → ¬ (lo ≤ i ∧ i < hi))
    (h1 : w'.os = w.os) (h2 : w'.tape = w.tape) (h3 : w'.output = w.output) :
    Ext g w (g.add H.next 0 w.heap.size) w' ∧ Sim (g.add H.next 0 w.heap.size) w' (H.push (.row e 0 ys)) ∧ (g.add H.next 0 w.heap.size).m H.next 0 = some w.heap.size ∧ w'.shape? w.heap.size = some (e, (us ++ pad).size) := by
  have hE := ext_push hS hh h1 h2 h3 (m_new hS 0) w.heap.size (Nat.le_refl _)
  have hnew : w'.heap[w.heap.size]? = some (.cells (us ++ pad) e (lo, hi)) := by rw [hh]; simp
  have hm : (g.add H.next 0 w.heap.size).m H.next 0 = some w.heap.size := by simp [Ghost.add]
  have hold : ∀ id gen b, (g.add H.next 0 w.heap.size).m id gen = some b → (id = H.next ∧ gen = 0 ∧ b = w.heap.size) ∨ g.m id gen = some b := by
    intro id gen b h
    simp only [Ghost.add] at h
    split at h
    · rename_i hc; exact .inl ⟨hc.1, hc.2, (Option.some.inj h).symm⟩
    · exact .inr h
  have hlive : ∀ id o, H.get id = some o → ∀ b, (g.add H.next 0 w.heap.size).m id o.gen = some b → g.m id o.gen = some b := by
    intro id o ho b hb
    rcases hold _ _ _ hb with ⟨h, _⟩ | h
    · have := H.lt ho; omega
    · exact h
  refine ⟨hE, ⟨fun b hb => ?_, fun id gen b hb => ?_, fun id o ho => ?_, fun id id' o o' b ho ho' hb hb' => ?_, fun id o b ho hb => ?_, fun id o gen b ho hb => ?_⟩, hm, by simp [World.shape?, hnew]⟩
  · have := hS.zlt b hb; rw [hh]; simp; omega
  · rw [hh, push_next]
    rcases hold _ _ _ hb with ⟨rfl, rfl, rfl⟩ | h
    · simp
    · have := hS.mlt _ _ _ h
      simp
      omega
  · rw [push_get] at ho
    split at ho
    · rename_i hid; subst hid
      obtain rfl := Option.some.inj ho
      refine ⟨w.heap.size, us ++ pad, lo, hi, hm, hnew, hfr, by simp [hr.1], fun i y hy => ?_⟩
      obtain ⟨u, hu, hrep⟩ := hr.get hy
      have hi : i < us.size := (Array.getElem?_eq_some_iff.1 hu).1
      exact ⟨u, by rw [Array.getElem?_append_left hi]; exact hu, hrep.ext hE⟩
    · exact (hS.live id o ho).ext hE (fun b hb => heap_push_old _ hh (hS.mlt _ _ _ hb).2)
  · rw [push_get] at ho ho'
    split at ho
    · rename_i h4
      split at ho'
      · rename_i h5; rw [h4, h5]
      · obtain rfl := Option.some.inj ho
        have h6 := hlive _ _ ho' _ hb'
        have h7 := (hS.mlt _ _ _ h6).2
        rw [h4] at hb
        simp only [AObj.gen] at hb
        rw [hm] at hb
        obtain rfl := Option.some.inj hb
        omega
    · split at ho'
      · rename_i h5
        obtain rfl := Option.some.inj ho'
        have h6 := hlive _ _ ho _ hb
        have h7 := (hS.mlt _ _ _ h6).2
        rw [h5] at hb'
        simp only [AObj.gen] at hb'
        rw [hm] at hb'
        obtain rfl := Option.some.inj hb'
        omega
      · exact hS.inj _ _ _ _ b ho ho' (hlive _ _ ho _ hb) (hlive _ _ ho' _ hb')
  · rw [push_get] at ho
    split at ho
    · rename_i hid; subst hid
      obtain rfl := Option.some.inj ho
      simp only [AObj.gen] at hb
      rw [hm] at hb
      obtain rfl := Option.some.inj hb
      intro hz
      have := hS.zlt _ hz
      omega
    · exact hS.nz id o b ho (hlive _ _ ho _ hb)
  · rw [push_get] at ho
    split at ho
    · rename_i hid; subst hid
      obtain rfl := Option.some.inj ho
      rcases hold _ _ _ hb with ⟨_, h, _⟩ | h
      · simp [AObj.gen, h]
      · rw [m_new hS gen] at h; cases h
    · rcases hold _ _ _ hb with ⟨h, _⟩ | h
      · have := H.lt ho; omega
      · exact hS.gen id o gen b ho h
/-- A block's cells other ones, of as many; the row is in its next state, or in the same one. -/
theorem sim_cells {id gen gen' b : Nat} {e : TypeId} {cs ys : List AV} {cur cur' : Array Value} {lo hi : Nat} (hS : Sim g w H) (ho : H.get id = some (.row e gen cs)) (hb : g.m id gen = some b) (hg : gen' = gen ∨ gen' = gen + 1)
    (hc : w.heap[b]? = some (.cells cur e (lo, hi))) (hfr : ∀ i, i < cur.size → ¬ (lo ≤ i ∧ i < hi)) (hh : w'.heap = w.heap.setIfInBounds b (.cells cur' e (lo, hi))) (hsz : cur'.size = cur.size) (hl : ys.length ≤ cur.size)
    (hr : ∀ (i : Nat) (y : AV), ys[i]? = some y → ∃ u, cur'[i]? = some u ∧ Rep g w u y) (h1 : w'.os = w.os) (h2 : w'.tape = w.tape) (h3 : w'.output = w.output) :
    Ext g w (g.add id gen' b) w' ∧ Sim (g.add id gen' b) w' (H.set id (.row e gen' ys)) ∧ (g.add id gen' b).m id gen' = some b := by
  have hbl : b < w.heap.size := (hS.mlt _ _ _ hb).2
  have hidl : id < H.next := (hS.mlt _ _ _ hb).1
  have hoth : ∀ k, k ≠ b → w'.heap[k]? = w.heap[k]? := by
    intro k hk
    rw [hh, Array.getElem?_setIfInBounds_ne (Ne.symm hk)]
  have hnew : w'.heap[b]? = some (.cells cur' e (lo, hi)) := by
    rw [hh, Array.getElem?_setIfInBounds_self_of_lt hbl]
  have hm : (g.add id gen' b).m id gen' = some b := by simp [Ghost.add]
  have hnz : ¬ g.Z b := hS.nz id _ b ho hb
  have hsame : ∀ k, g.m id gen' = some k → k = b := by
    intro k hk
    rcases hg with rfl | rfl
    · rw [hb] at hk; exact (Option.some.inj hk).symm
    · have := hS.gen id _ _ _ ho hk
      simp only [AObj.gen] at this
      omega
  have hE : Ext g w (g.add id gen' b) w' := by
    refine ⟨fun i k b' hb' => ?_, fun _ h => h, fun b' hb' => hoth b' (fun e => hnz (e ▸ hb')), fun b' s h => ?_, by rw [hh]; simp, h1, h2, h3, fun k hk q => ?_, fun k hk q => hoth k (fun e => q (.inr ⟨id, gen, by rw [e]; exact hb⟩))⟩
    rotate_left 2
    · rcases q with q | ⟨i, j, q⟩
      · exact .inl q
      · simp only [Ghost.add] at q
        split at q
        · obtain rfl := Option.some.inj q
          exact .inr ⟨id, gen, hb⟩
        · exact .inr ⟨i, j, q⟩
    · simp only [Ghost.add]
      split
      · rename_i hcc
        obtain ⟨rfl, rfl⟩ := hcc
        rw [hsame _ hb']
      · exact hb'
    · unfold World.shape? at h ⊢
      by_cases hk : b' = b
      · subst hk
        rw [hc] at h
        rw [hnew]
        simp only at h ⊢
        rw [hsz]
        exact h
      · rw [hoth b' hk]
        exact h
  have hold : ∀ i k c, (g.add id gen' b).m i k = some c → (i = id ∧ k = gen' ∧ c = b) ∨ g.m i k = some c := by
    intro i k c h
    simp only [Ghost.add] at h
    split at h
    · rename_i hcc; exact .inl ⟨hcc.1, hcc.2, (Option.some.inj h).symm⟩
    · exact .inr h
  have hget : ∀ i o, (H.set id (.row e gen' ys)).get i = some o → (i = id ∧ o = .row e gen' ys) ∨ (i ≠ id ∧ H.get i = some o) := by
    intro i o h
    simp only [AHeap.set] at h
    split at h
    · rename_i hcc; exact .inl ⟨hcc.1, (Option.some.inj h).symm⟩
    · rename_i hcc
      exact .inr ⟨fun e => hcc ⟨e, hidl⟩, h⟩
  have hother : ∀ i o c, i ≠ id → H.get i = some o → (g.add id gen' b).m i o.gen = some c → g.m i o.gen = some c ∧ c ≠ b := by
    intro i o c hi ho' h
    rcases hold _ _ _ h with ⟨h4, _⟩ | h4
    · exact absurd h4 hi
    · exact ⟨h4, fun e => hi (hS.inj _ _ _ _ b ho' ho (e ▸ h4) hb)⟩
  refine ⟨hE, ⟨fun c hc => ?_, fun i k c h => ?_, fun i o h => ?_, fun i i' o o' c h h' hb1 hb2 => ?_, fun i o c h hb1 => ?_, fun i o k c h hb1 => ?_⟩, hm⟩
  · have := hS.zlt c hc; rw [hh]; simpa using this
  · rw [hh]
    rcases hold _ _ _ h with ⟨rfl, rfl, rfl⟩ | h4
    · simpa [set_next] using ⟨hidl, hbl⟩
    · simpa [set_next] using hS.mlt _ _ _ h4
  · rcases hget i o h with ⟨rfl, rfl⟩ | ⟨hi, h4⟩
    · refine ⟨b, cur', lo, hi, hm, hnew, by rw [hsz]; exact hfr, by omega, fun j y hy => ?_⟩
      obtain ⟨u, hu, hrep⟩ := hr j y hy
      exact ⟨u, hu, hrep.ext hE⟩
    · refine (hS.live i o h4).ext hE (fun c hc => hoth c ?_)
      intro e
      exact hi (hS.inj _ _ _ _ b h4 ho (e ▸ hc) hb)
  · rcases hget i o h with ⟨rfl, rfl⟩ | ⟨hi, h4⟩ <;> rcases hget i' o' h' with ⟨rfl, rfl⟩ | ⟨hi', h5⟩
    · rfl
    · have := hother _ _ _ hi' h5 hb2
      simp only [AObj.gen] at hb1
      rw [hm] at hb1
      obtain rfl := Option.some.inj hb1
      exact absurd rfl this.2
    · have := hother _ _ _ hi h4 hb1
      simp only [AObj.gen] at hb2
      rw [hm] at hb2
      obtain rfl := Option.some.inj hb2
      exact absurd rfl this.2
    · exact hS.inj _ _ _ _ c h4 h5 (hother _ _ _ hi h4 hb1).1 (hother _ _ _ hi' h5 hb2).1
  · rcases hget i o h with ⟨rfl, rfl⟩ | ⟨hi, h4⟩
    · simp only [AObj.gen] at hb1
      rw [hm] at hb1
      obtain rfl := Option.some.inj hb1
      exact hnz
    · exact hS.nz i o c h4 (hother _ _ _ hi h4 hb1).1
  · rcases hget i o h with ⟨rfl, rfl⟩ | ⟨hi, h4⟩
    · simp only [AObj.gen]
      rcases hold _ _ _ hb1 with ⟨_, rfl, _⟩ | h5
      · exact Nat.le_refl _
      · have := hS.gen i _ k c ho h5
        simp only [AObj.gen] at this
        omega
    · rcases hold _ _ _ hb1 with ⟨h5, _⟩ | h5
      · exact absurd h5 hi
      · exact hS.gen i o k c h4 h5
/-- The row goes to a new block. -/
theorem sim_grow {id gen : Nat} {e : TypeId} {cs ys : List AV} {us pad : Array Value} {lo hi : Nat} (hS : Sim g w H) (ho : H.get id = some (.row e gen cs)) (hr : Reps g w us ys) (hh : w'.heap = w.heap.push (.cells (us ++ pad) e (lo, hi))) (hfr : ∀ i, i < (us ++ pad).size → ¬ (lo ≤ i ∧ i < hi))
    (h1 : w'.os = w.os) (h2 : w'.tape = w.tape) (h3 : w'.output = w.output) :
    Ext g w (g.add id (gen + 1) w.heap.size) w' ∧ Sim (g.add id (gen + 1) w.heap.size) w' (H.set id (.row e (gen + 1) ys)) ∧ (g.add id (gen + 1) w.heap.size).m id (gen + 1) = some w.heap.size ∧ w'.shape? w.heap.size = some (e, (us ++ pad).size) := by
  have hidl : id < H.next := H.lt ho
  have hnone : g.m id (gen + 1) = none := by
    cases h : g.m id (gen + 1) with
    | none => rfl
    | some b =>
      have := hS.gen id _ _ _ ho h
      simp only [AObj.gen] at this
      omega
  have hE := ext_push hS hh h1 h2 h3 hnone w.heap.size (Nat.le_refl _)
  have hnew : w'.heap[w.heap.size]? = some (.cells (us ++ pad) e (lo, hi)) := by rw [hh]; simp
  have hm : (g.add id (gen + 1) w.heap.size).m id (gen + 1) = some w.heap.size := by simp [Ghost.add]
  have hold : ∀ i k c, (g.add id (gen + 1) w.heap.size).m i k = some c → (i = id ∧ k = gen + 1 ∧ c = w.heap.size) ∨ g.m i k = some c := by
    intro i k c h
    simp only [Ghost.add] at h
    split at h
    · rename_i hcc; exact .inl ⟨hcc.1, hcc.2, (Option.some.inj h).symm⟩
    · exact .inr h
  have hget : ∀ i o, (H.set id (.row e (gen + 1) ys)).get i = some o → (i = id ∧ o = .row e (gen + 1) ys) ∨ (i ≠ id ∧ H.get i = some o) := by
    intro i o h
    simp only [AHeap.set] at h
    split at h
    · rename_i hcc; exact .inl ⟨hcc.1, (Option.some.inj h).symm⟩
    · rename_i hcc
      exact .inr ⟨fun e => hcc ⟨e, hidl⟩, h⟩
  have hother : ∀ i o c, i ≠ id → (g.add id (gen + 1) w.heap.size).m i o = some c → g.m i o = some c := by
    intro i o c hi h
    rcases hold _ _ _ h with ⟨h4, _⟩ | h4
    · exact absurd h4 hi
    · exact h4
  refine ⟨hE, ⟨fun c hc => ?_, fun i k c h => ?_, fun i o h => ?_, fun i i' o o' c h h' hb1 hb2 => ?_, fun i o c h hb1 => ?_, fun i o k c h hb1 => ?_⟩, hm, by simp [World.shape?, hnew]⟩
  · have := hS.zlt c hc; rw [hh]; simp; omega
  · rw [hh]
    rcases hold _ _ _ h with ⟨rfl, rfl, rfl⟩ | h4
    · simp [set_next, hidl]
    · have := hS.mlt _ _ _ h4
      simp [set_next]
      omega
  · rcases hget i o h with ⟨rfl, rfl⟩ | ⟨hi, h4⟩
    · refine ⟨w.heap.size, us ++ pad, lo, hi, hm, hnew, hfr, by simp [hr.1], fun j y hy => ?_⟩
      obtain ⟨u, hu, hrep⟩ := hr.get hy
      have hi : j < us.size := (Array.getElem?_eq_some_iff.1 hu).1
      exact ⟨u, by rw [Array.getElem?_append_left hi]; exact hu, hrep.ext hE⟩
    · exact (hS.live i o h4).ext hE (fun b hb => heap_push_old _ hh (hS.mlt _ _ _ hb).2)
  · rcases hget i o h with ⟨rfl, rfl⟩ | ⟨hi, h4⟩ <;> rcases hget i' o' h' with ⟨rfl, rfl⟩ | ⟨hi', h5⟩
    · rfl
    · have := (hS.mlt _ _ _ (hother _ _ _ hi' hb2)).2
      simp only [AObj.gen] at hb1
      rw [hm] at hb1
      obtain rfl := Option.some.inj hb1
      omega
    · have := (hS.mlt _ _ _ (hother _ _ _ hi hb1)).2
      simp only [AObj.gen] at hb2
      rw [hm] at hb2
      obtain rfl := Option.some.inj hb2
      omega
    · exact hS.inj _ _ _ _ c h4 h5 (hother _ _ _ hi hb1) (hother _ _ _ hi' hb2)
  · rcases hget i o h with ⟨rfl, rfl⟩ | ⟨hi, h4⟩
    · simp only [AObj.gen] at hb1
      rw [hm] at hb1
      obtain rfl := Option.some.inj hb1
      intro hz
      have := hS.zlt _ hz
      omega
    · exact hS.nz i o c h4 (hother _ _ _ hi hb1)
  · rcases hget i o h with ⟨rfl, rfl⟩ | ⟨hi, h4⟩
    · simp only [AObj.gen]
      rcases hold _ _ _ hb1 with ⟨_, rfl, _⟩ | h5
      · exact Nat.le_refl _
      · have := hS.gen i _ k c ho h5
        simp only [AObj.gen] at this
        omega
    · rcases hold _ _ _ hb1 with ⟨h5, _⟩ | h5
      · exact absurd h5 hi
      · exact hS.gen i o k c h4 h5
/-- A new block that nobody writes to. -/
theorem sim_shut {o : Obj} (hS : Sim g w H) (hh : w'.heap = w.heap.push o) (h1 : w'.os = w.os) (h2 : w'.tape = w.tape) (h3 : w'.output = w.output) :
    Ext g w { g with Z := fun b => g.Z b ∨ b = w.heap.size } w' ∧ Sim { g with Z := fun b => g.Z b ∨ b = w.heap.size } w' H := by
  have hE : Ext g w { g with Z := fun b => g.Z b ∨ b = w.heap.size } w' :=
    ⟨fun _ _ _ h => h, fun _ h => .inl h, fun b' hb => heap_push_old o hh (hS.zlt b' hb), fun b' s h => shape_push o hh h, by rw [hh]; simp, h1, h2, h3, fun k hk q => by
      rcases q with (q | q) | q
      · exact .inl q
      · omega
      · exact .inr q, fun k hk _ => heap_push_old o hh hk⟩
  refine ⟨hE, ⟨fun b hb => ?_, fun id gen b hb => ?_, fun id o ho => ?_, fun id id' o o' b ho ho' hb hb' => hS.inj _ _ _ _ b ho ho' hb hb', fun id o b ho hb => ?_, fun id o gen b ho hb => hS.gen _ _ _ _ ho hb⟩⟩
  · rw [hh]
    rcases hb with hb | rfl
    · have := hS.zlt b hb; simp; omega
    · simp
  · have := hS.mlt _ _ _ hb
    rw [hh]
    simp
    omega
  · exact (hS.live id o ho).ext hE (fun b hb => heap_push_old _ hh (hS.mlt _ _ _ hb).2)
  · have := (hS.mlt _ _ _ hb).2
    intro hz
    rcases hz with hz | rfl
    · exact hS.nz id o b ho hb hz
    · omega
/-- A row that nobody writes to any more. -/
theorem sim_kill {id : Nat} {o : AObj} {b : Nat} (hS : Sim g w H) (ho : H.get id = some o) (hb : g.m id o.gen = some b) :
    Ext g w { g with Z := fun k => g.Z k ∨ k = b } w ∧ Sim { g with Z := fun k => g.Z k ∨ k = b } w (H.kill id) := by
  have hE : Ext g w { g with Z := fun k => g.Z k ∨ k = b } w :=
    ⟨fun _ _ _ h => h, fun _ h => .inl h, fun _ _ => rfl, fun _ _ h => h, Nat.le_refl _, rfl, rfl, rfl, fun k hk q => by
      rcases q with (q | q) | q
      · exact .inl q
      · subst q; exact .inr ⟨_, _, hb⟩
      · exact .inr q, fun _ _ _ => rfl⟩
  have hget : ∀ i o, (H.kill id).get i = some o → i ≠ id ∧ H.get i = some o := by
    intro i o h
    simp only [AHeap.kill] at h
    split at h
    · cases h
    · exact ⟨by assumption, h⟩
  refine ⟨hE, ⟨fun k hk => ?_, fun i k c h => hS.mlt _ _ _ h, fun i o h => (hS.live i o (hget i o h).2).ext hE (fun _ _ => rfl), fun i i' o o' c h h' => hS.inj _ _ _ _ c (hget _ _ h).2 (hget _ _ h').2, fun i o' c h hb1 => ?_, fun i o k c h => hS.gen _ _ _ _ (hget _ _ h).2⟩⟩
  · rcases hk with hk | rfl
    · exact hS.zlt k hk
    · exact (hS.mlt _ _ _ hb).2
  · obtain ⟨hi, h2⟩ := hget i o' h
    intro hz
    rcases hz with hz | rfl
    · exact hS.nz i o' c h2 hb1 hz
    · exact hi (hS.inj _ _ _ _ _ h2 ho hb1 hb)
theorem flat_get : ∀ (xs : List AV) (sz j i : Nat) (x y : AV), (∀ x ∈ xs, x.cells.length = sz) → xs[j]? = some x → x.cells[i]? = some y → (xs.flatMap AV.cells)[j * sz + i]? = some y
  | [], _, _, _, _, _, _, h, _ => by simp at h
  | z :: xs, sz, 0, i, x, y, hl, h1, h2 => by
    simp at h1
    subst h1
    have hi : i < z.cells.length := (List.getElem?_eq_some_iff.1 h2).1
    simp only [List.flatMap_cons, Nat.zero_mul, Nat.zero_add]
    rw [List.getElem?_append_left hi]
    exact h2
  | z :: xs, sz, j + 1, i, x, y, hl, h1, h2 => by
    have hz := hl z (by simp)
    simp only [List.flatMap_cons]
    rw [List.getElem?_append_right (by rw [hz, Nat.succ_mul]; omega), hz, show (j + 1) * sz + i - sz = j * sz + i by rw [Nat.succ_mul]; omega]
    exact flat_get xs sz j i x y (fun a ha => hl a (by simp [ha])) (by simpa using h1) h2
theorem flat_length : ∀ (xs : List AV) (sz : Nat), (∀ x ∈ xs, x.cells.length = sz) → (xs.flatMap AV.cells).length = xs.length * sz
  | [], _, _ => by simp
  | z :: xs, sz, h => by
    simp only [List.flatMap_cons, List.length_append, List.length_cons]
    rw [flat_length xs sz (fun a ha => h a (by simp [ha])), h z (by simp), Nat.succ_mul]
    omega
theorem shut_row {id gen off len sz : Nat} {e : TypeId} {cs xs : List AV} {v : Value} (hS : Sim g w H) (ho : H.get id = some (.row e gen cs)) (hr : Rep g w v (.wr id gen off len sz))
    (hx : ∀ x ∈ xs, x.cells.length = sz) (hn : xs.length = len) (hc : (cs.drop off).take (len * sz) = xs.flatMap AV.cells) :
    ∃ g', Ext g w g' w ∧ Sim g' w (H.kill id) ∧ Rep g' w v (.imm sz xs) := by
  obtain ⟨b, c, e', n, rfl, h1, h2, h3, h4, h5⟩ := hr.wr_inv
  obtain ⟨hE, hK⟩ := sim_kill hS ho h1
  refine ⟨_, hE, hK, ?_⟩
  have hrow := live_row hS ho h1
  have hfl := flat_length xs sz hx
  subst hn
  refine .imm sz xs b off _ c (fun k => (w.cell? ⟨b, off + k, none⟩).getD undef) rfl h4 h5 (.inr rfl) hx (fun k hk => ?_) (fun j x i y hj hi => ?_)
  · have hk2 : k < (xs.flatMap AV.cells).length := by rw [hfl]; exact hk
    have hk3 : (cs.drop off)[k]? = some ((xs.flatMap AV.cells)[k]) := by
      have h6 : ((cs.drop off).take (xs.length * sz))[k]? = some ((xs.flatMap AV.cells)[k]) := by rw [hc]; exact List.getElem?_eq_getElem hk2
      rw [List.getElem?_take, if_pos hk] at h6
      exact h6
    rw [List.getElem?_drop] at hk3
    obtain ⟨u, hu, _⟩ := hrow (off + k) _ hk3
    rw [Nat.zero_add] at hu
    rw [hu]
    rfl
  · have h6 := flat_get xs sz j i x y hx hj hi
    rw [← hc, List.getElem?_take] at h6
    split at h6
    · rw [List.getElem?_drop] at h6
      obtain ⟨u, hu, hrep⟩ := hrow _ _ h6
      rw [Nat.zero_add] at hu
      rw [hu]
      exact hrep.ext hE
    · cases h6
/-- A value's rows that may be written to, shut: nobody writes to them any more. -/
inductive Shut : AHeap → AV → AHeap → AV → Prop
  | refl (H : AHeap) (y : AV) : Shut H y H y
  | row (H : AHeap) (id gen off len sz : Nat) (e : TypeId) (cs xs : List AV) : H.get id = some (.row e gen cs) → (∀ x ∈ xs, x.cells.length = sz) → xs.length = len → (cs.drop off).take (len * sz) = xs.flatMap AV.cells →
      Shut H (.wr id gen off len sz) (H.kill id) (.imm sz xs)
  | agg (H H1 : AHeap) (l r : List AV) (y z : AV) : Shut H y H1 z → Shut H (.agg (l ++ y :: r)) H1 (.agg (l ++ z :: r))
  | tup (H H1 : AHeap) (l r : List AV) (y z : AV) : Shut H y H1 z → Shut H (.tup (l ++ y :: r)) H1 (.tup (l ++ z :: r))
  | trans (H H1 H2 : AHeap) (x y z : AV) : Shut H x H1 y → Shut H1 y H2 z → Shut H x H2 z
theorem Reps.replace {g' : Ghost} {vs : Array Value} {l r : List AV} {y z : AV} (hE : Ext g w g' w') (h : Reps g w vs (l ++ y :: r)) (hz : ∀ v, vs[l.length]? = some v → Rep g' w' v z) : Reps g' w' vs (l ++ z :: r) := by
  refine ⟨by rw [h.1]; simp, fun i v x hv hx => ?_⟩
  by_cases hi : i = l.length
  · subst hi
    rw [List.getElem?_append_right (Nat.le_refl _)] at hx
    simp at hx
    subst hx
    exact hz v hv
  · refine (h.2 i v x hv ?_).ext hE
    by_cases hlt : i < l.length
    · rw [List.getElem?_append_left hlt] at hx ⊢
      exact hx
    · rw [List.getElem?_append_right (by omega)] at hx ⊢
      obtain ⟨k, hk⟩ : ∃ k, i - l.length = k + 1 := ⟨i - l.length - 1, by omega⟩
      rw [hk] at hx ⊢
      simpa using hx
theorem Shut.sound {H H' : AHeap} {y y' : AV} (h : Shut H y H' y') : ∀ {g : Ghost} {v : Value}, Sim g w H → Rep g w v y → ∃ g', Ext g w g' w ∧ Sim g' w H' ∧ Rep g' w v y' := by
  induction h with
  | refl H y => exact fun hS hr => ⟨_, Ext.refl _ _, hS, hr⟩
  | row H id gen off len sz e cs xs h1 h2 h3 h4 => exact fun hS hr => shut_row hS h1 hr h2 h3 h4
  | agg H H1 l r y z _ ih =>
    intro g v hS hr
    obtain ⟨vs, rfl, hreps⟩ := hr.agg_inv
    obtain ⟨u, hu, hrep⟩ := hreps.get (i := l.length) (y := y) (by simp)
    obtain ⟨g', hE, hS', hr'⟩ := ih hS hrep
    refine ⟨g', hE, hS', ?_⟩
    have := hreps.replace hE (fun v hv => by rw [hu] at hv; obtain rfl := Option.some.inj hv; exact hr')
    exact .agg _ _ this.1 this.2
  | tup H H1 l r y z _ ih =>
    intro g v hS hr
    obtain ⟨vs, rfl, hreps⟩ := hr.tup_inv
    obtain ⟨u, hu, hrep⟩ := hreps.get (i := l.length) (y := y) (by simp)
    obtain ⟨g', hE, hS', hr'⟩ := ih hS hrep
    refine ⟨g', hE, hS', ?_⟩
    have := hreps.replace hE (fun v hv => by rw [hu] at hv; obtain rfl := Option.some.inj hv; exact hr')
    exact .tup _ _ this.1 this.2
  | trans H H1 H2 x y z _ _ ih1 ih2 =>
    intro g v hS hr
    obtain ⟨g1, hE1, hS1, hr1⟩ := ih1 hS hr
    obtain ⟨g2, hE2, hS2, hr2⟩ := ih2 hS1 hr1
    exact ⟨g2, hE1.trans hE2, hS2, hr2⟩
/-- Cells stored one behind the other. -/
theorem run_stores : ∀ (vs : List Value) (i b o : Nat) (w : World) (cur : Array Value) (e : TypeId) (lo hi : Nat), w.heap[b]? = some (.cells cur e (lo, hi)) → o + i + vs.length ≤ cur.size → (∀ i, i < cur.size → ¬ (lo ≤ i ∧ i < hi)) → (∀ u ∈ vs, u.oneCell' = true) →
    ∃ w' cur', (storeCells ⟨b, o, none⟩ vs i).run P w = .ok () w' ∧ w'.heap = w.heap.setIfInBounds b (.cells cur' e (lo, hi)) ∧ w'.os = w.os ∧ w'.tape = w.tape ∧ w'.output = w.output ∧ cur'.size = cur.size ∧
      ∀ k, cur'[k]? = if o + i ≤ k ∧ k < o + i + vs.length then vs[k - (o + i)]? else cur[k]?
  | [], i, b, o, w, cur, e, lo, hi, h, _, _, _ => by
    refine ⟨w, cur, rfl, ?_, rfl, rfl, rfl, rfl, fun k => by rw [if_neg (by simp only [List.length_nil]; omega)]⟩
    have hb := (Array.getElem?_eq_some_iff.1 h)
    obtain ⟨hb1, hb2⟩ := hb
    apply Array.ext
    · simp
    · intro j h1 h2
      rw [Array.getElem_setIfInBounds]
      split
      · rename_i hj; subst hj; exact hb2
      · rfl
  | v :: vs, i, b, o, w, cur, e, lo, hi, h, hl, hfr, h1 => by
    simp only [List.length_cons] at hl
    have hblt : b < w.heap.size := (Array.getElem?_eq_some_iff.1 h).1
    have hc : w.cell? ⟨b, o + i, none⟩ = some (cur[o + i]'(by omega)) := by
      simp [World.cell?, h]
    have hf : w.frozen? ⟨b, o + i, none⟩ = false := by
      have := hfr (o + i) (by omega)
      simp only [World.frozen?, h]
      simpa using this
    have hst : (store ⟨b, o + i, none⟩ v).run P w = .ok () (w.setCell ⟨b, o + i, none⟩ v) := by
      rw [run_store P w _ v _ (h1 v (by simp)), hc]
      simp [hf]
    have hh : (w.setCell ⟨b, o + i, none⟩ v).heap = w.heap.setIfInBounds b (.cells (cur.setIfInBounds (o + i) v) e (lo, hi)) := by
      have hv : w.heap[b] = .cells cur e (lo, hi) := (Array.getElem?_eq_some_iff.1 h).2
      apply Array.ext
      · simp [World.setCell]
      · intro j h1 h2
        simp only [World.setCell]
        rw [Array.getElem_modify, Array.getElem_setIfInBounds]
        split
        · rename_i hj; subst hj; rw [hv]; simp
        · rfl
    have hnew : (w.setCell ⟨b, o + i, none⟩ v).heap[b]? = some (.cells (cur.setIfInBounds (o + i) v) e (lo, hi)) := by
      rw [hh, Array.getElem?_setIfInBounds_self_of_lt hblt]
    obtain ⟨w', cur', r1, r2, r3, r4, r5, r6, r7⟩ := run_stores vs (i + 1) b o _ _ e lo hi hnew (by simp; omega) (by simpa using hfr) (fun u hu => h1 u (by simp [hu]))
    refine ⟨w', cur', ?_, ?_, r3, r4, r5, by rw [r6]; simp, fun k => ?_⟩
    · simp only [storeCells, Sem.run_bind, Addr.add_lit, hst, Result.andThen_ok]
      exact r1
    · rw [r2, hh, Array.setIfInBounds_setIfInBounds]
    · rw [r7 k]
      simp only [List.length_cons]
      by_cases hk : o + i = k
      · subst hk
        rw [if_neg (by omega), if_pos ⟨Nat.le_refl _, by omega⟩, Array.getElem?_setIfInBounds_self_of_lt (by omega), Nat.sub_self]
        rfl
      · by_cases hk2 : o + (i + 1) ≤ k ∧ k < o + (i + 1) + vs.length
        · rw [if_pos hk2, if_pos (by omega), show k - (o + i) = (k - (o + (i + 1))) + 1 by omega]
          rfl
        · rw [if_neg hk2, if_neg (by omega), Array.getElem?_setIfInBounds_ne hk]
end
end Go.Proofs.Ytblflecalomgfaa.AL
