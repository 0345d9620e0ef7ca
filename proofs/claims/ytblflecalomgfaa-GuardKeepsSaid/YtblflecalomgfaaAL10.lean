/- Operations that make memory or write to it do to the machine's memory what is told of them. -/
import Derived.Test.YtblflecalomgfaaAL9
set_option linter.unusedVariables false
set_option linter.unusedSimpArgs false
namespace Go.Proofs.Ytblflecalomgfaa.AL
open Go
section
variable {P : Program} {g : Ghost} {w : World} {H : AHeap} {act : Act} {a : List AV}
/-- What an operation's run must bring. -/
def Goes (P : Program) (g : Ghost) (w : World) (s : Sem Value) (K : AV → AHeap → Prop) : Prop :=
  ∃ v w' g' y H', s.run P w = .ok v w' ∧ Ext g w g' w' ∧ Sim g' w' H' ∧ Rep g' w' v y ∧ K y H'
theorem empty_pad (us : Array Value) : us ++ (#[] : Array Value) = us := by simp
theorem goes_alloc {e : TypeId} {zs : List AV} {K : AV → AHeap → Prop} (hS : Sim g w H) (hz : tZero P e = some zs) (hk : K (.ptr H.next 0 0) (H.push (.row e 0 zs))) : Goes P g w (Instr.alloc e true (.tuple #[])) K := by
  obtain ⟨i, z, hi, hz1, hz2⟩ := zero_spec hz
  have hr : Reps g w z.cells zs := by simpa using trV_reps (g := g) (w := w) _ _ hz2
  obtain ⟨hE, hS', hm, _⟩ := sim_push (e := e) (w' := w.alloc (.cells z.cells e)) (pad := #[]) (lo := 0) (hi := 0) hS hr (by simp [World.alloc, -World.alloc_eq]) (fun _ _ => by omega) rfl rfl rfl
  exact ⟨.pointer (some ⟨w.heap.size, 0, none⟩), _, _, _, _, by simp [Instr.alloc, zeroValue, typeInfo, hi, hz1, newVar, newRow], hE, hS', .ptr _ _ _ _ hm, hk⟩
theorem goes_box {e : TypeId} {v : Value} {x : AV} {K : AV → AHeap → Prop} (hS : Sim g w H) (hx : Rep g w v x) (hf : x.flat = true) (hk : K (.ptr H.next 0 0) (H.push (.row e 0 x.cells))) : Goes P g w (Instr.box e v) K := by
  have hr := hx.cells (by intro h; subst h; simp [AV.flat, AV.one] at hf)
  obtain ⟨hE, hS', hm, _⟩ := sim_push (e := e) (w' := w.alloc (.cells v.cells e)) (pad := #[]) (lo := 0) (hi := 0) hS hr (by simp [World.alloc, -World.alloc_eq]) (fun _ _ => by omega) rfl rfl rfl
  exact ⟨.pointer (some ⟨w.heap.size, 0, none⟩), _, _, _, _, by simp [Instr.box, newVar, newRow], hE, hS', .ptr _ _ _ _ hm, hk⟩
/-- Cells of a row other ones, from o on. -/
theorem goes_cells {id gen gen' b o : Nat} {e : TypeId} {cs ys : List AV} {us : List Value} (hS : Sim g w H) (ho : H.get id = some (.row e gen cs)) (hb : g.m id gen = some b) (hg : gen' = gen ∨ gen' = gen + 1)
    (hr : Reps g w us.toArray ys) (h1 : ys.all AV.one = true) {n' : Nat} (hsh : w.shape? b = some (e, n')) (hfit : o + ys.length ≤ n') (hoc : o ≤ cs.length) :
    ∃ w', (storeCells ⟨b, o, none⟩ us).run P w = .ok () w' ∧ Ext g w (g.add id gen' b) w' ∧ Sim (g.add id gen' b) w' (H.set id (.row e gen' (cs.take o ++ ys ++ cs.drop (o + ys.length)))) ∧ (g.add id gen' b).m id gen' = some b := by
  obtain ⟨b', cur, lo, hi, q1, q2, q3, q4, q5⟩ := hS.live id _ ho
  rw [hb] at q1
  obtain rfl := Option.some.inj q1
  have hn : cur.size = n' := by
    unfold World.shape? at hsh
    rw [q2] at hsh
    simp only [Option.some.injEq, Prod.mk.injEq] at hsh
    exact hsh.2
  have hlen : us.length = ys.length := by simpa using hr.1
  have hone : ∀ u ∈ us, u.oneCell' = true := by
    intro u hu
    obtain ⟨i, hi⟩ := List.getElem?_of_mem hu
    have hil : i < ys.length := by rw [← hlen]; exact (List.getElem?_eq_some_iff.1 hi).1
    have h2 := hr.2 i u ys[i] (by simpa using hi) (List.getElem?_eq_getElem hil)
    exact one_one h2 (by rw [List.all_eq_true] at h1; exact h1 _ (List.getElem_mem _))
  obtain ⟨w', cur', r1, r2, r3, r4, r5, r6, r7⟩ := run_stores (P := P) us 0 b o w cur e lo hi q2 (by omega) q3 hone
  have hc := sim_cells (ys := cs.take o ++ ys ++ cs.drop (o + ys.length)) hS ho hb hg q2 q3 r2 r6 (by simp; omega) (fun i y hy => ?_) r3 r4 r5
  · exact ⟨w', r1, hc.1, hc.2.1, hc.2.2⟩
  · rw [r7 i]
    simp only [Nat.add_zero]
    by_cases hi1 : i < o
    · rw [if_neg (by omega)]
      rw [List.append_assoc, List.getElem?_append_left (by simp; omega), List.getElem?_take, if_pos hi1] at hy
      exact q5 i y hy
    · by_cases hi2 : i < o + ys.length
      · rw [if_pos (by omega)]
        rw [List.append_assoc, List.getElem?_append_right (by simp; omega), List.getElem?_append_left (by simp; omega)] at hy
        have hk : i - (cs.take o).length = i - o := by simp; omega
        rw [hk] at hy
        obtain ⟨u, hu, hrep⟩ := hr.get hy
        exact ⟨u, by simpa using hu, hrep⟩
      · rw [if_neg (by omega)]
        rw [List.getElem?_append_right (by simp; omega), List.getElem?_drop] at hy
        have hk : o + ys.length + (i - (cs.take o ++ ys).length) = i := by simp; omega
        rw [hk] at hy
        exact q5 i y hy
theorem goes_store {t : TypeId} {n : Nat} {p v : Value} {x y : AV} {H' : AHeap} (hS : Sim g w H) (hn : tSize P t = some n) (hx : Rep g w p x) (hv : Rep g w v y) (h : astore H n y x = some H') :
    ∃ w' g', (Instr.storeAt t p v).run P w = .ok () w' ∧ Ext g w g' w' ∧ Sim g' w' H' := by
  unfold astore at h
  split at h <;> (try (cases h; done))
  rename_i id gen off
  split at h <;> (try (cases h; done))
  rename_i e g2 cs ho
  split at h <;> (try (cases h; done))
  rename_i hc
  obtain ⟨rfl, hf, h1, hl, hle⟩ := hc
  obtain rfl := Option.some.inj h
  obtain ⟨b, rfl, hb⟩ := hx.ptr_inv
  have hr := hv.cells (by intro h; subst h; simp [AV.flat, AV.one] at hf)
  obtain ⟨b', cur, lo, hi, q1, q2, q3, q4, q5⟩ := hS.live id _ ho
  rw [hb] at q1
  obtain rfl := Option.some.inj q1
  obtain ⟨w', r1, hE, hS', _⟩ := goes_cells (P := P) (o := off) (us := v.cells.toList) hS ho hb (.inl rfl) (by simpa using hr) h1 (n' := cur.size) (by simp [World.shape?, q2]) (by omega) (by omega)
  rw [hl] at hS'
  refine ⟨w', _, ?_, hE, hS'⟩
  have hsz : v.cells.size = n := by rw [hr.1, hl]
  simp [Instr.storeAt, Instr.sureAddr, storeVar, run_sizeOf hn, hsz, r1]
theorem afill_lit : ∀ (ps : List AV) (sz k : Nat) (pre : List AV), (∀ p ∈ ps, p.flat = true ∧ p.cells.length = sz) → pre.length = k * sz →
    afill (pre ++ List.replicate (ps.length * sz) .top) (ps.zipIdx k |>.map fun p => (p.2 * sz, sz, p.1)) = some (pre ++ ps.flatMap AV.cells)
  | [], sz, k, pre, _, _ => by simp [afill]
  | p :: ps, sz, k, pre, h, hp => by
    have h0 := h p (by simp)
    have hlen : (p :: ps).length * sz = sz + ps.length * sz := by rw [List.length_cons, Nat.succ_mul]; omega
    simp only [List.zipIdx_cons, List.map_cons, afill]
    rw [if_pos ⟨h0.1, h0.2, by rw [List.length_append, List.length_replicate, hp, hlen]; omega⟩]
    have e1 : (pre ++ List.replicate ((p :: ps).length * sz) AV.top).take (k * sz) = pre := by rw [← hp]; simp
    have e2 : (pre ++ List.replicate ((p :: ps).length * sz) AV.top).drop (k * sz + sz) = List.replicate (ps.length * sz) .top := by
      rw [← hp, List.drop_append, List.drop_eq_nil_of_le (by omega), List.nil_append, Nat.add_sub_cancel_left, List.drop_replicate, hlen, Nat.add_sub_cancel_left]
    rw [e1, e2]
    have ih := afill_lit ps sz (k + 1) (pre ++ p.cells) (fun q hq => h q (by simp [hq])) (by simp [hp, h0.2, Nat.succ_mul])
    rw [ih]
    simp
theorem litOk_spec : ∀ (l : List (Nat × Operand)) (k : Nat), litOk k l = true → ∀ (j : Nat) (p : Nat × Operand), l[j]? = some p → p.1 = k + j
  | [], _, _, j, p, h => by simp at h
  | (i, x) :: l, k, h, j, p, hj => by
    simp only [litOk, Bool.and_eq_true, beq_iff_eq] at h
    cases j with
    | zero => simp at hj; subst hj; exact h.1
    | succ j =>
      have := litOk_spec l (k + 1) h.2 j p (by simpa using hj)
      omega
theorem goes_lit {t e : TypeId} {sz n : Nat} {parts : Array (Nat × Value)} {ps : List AV} {K : AV → AHeap → Prop} (hS : Sim g w H) (ht : tElem P t = some (e, sz)) (hn : parts.size = n) (hz : zOk P e sz = true) (hle : n * sz ≤ 16777216) (h0 : 0 < sz)
    (hi : ∀ (j : Nat) (p : Nat × Value), parts[j]? = some p → p.1 = j) (hl : n = ps.length) (hr : ∀ (j : Nat) (p : Nat × Value) (y : AV), parts[j]? = some p → ps[j]? = some y → Rep g w p.2 y)
    (hf : ∀ p ∈ ps, p.flat = true ∧ p.cells.length = sz) (hk : K (.imm sz ps) H) : Goes P g w (Instr.buildSlice t n parts) K := by
  obtain ⟨hu, hs⟩ := tElem_spec ht
  unfold zOk at hz
  split at hz <;> (try (cases hz; done))
  rename_i i hinfo
  split at hz <;> (try (cases hz; done))
  rename_i z hzero
  have hzs : z.cells.size = sz := by simpa using hz
  subst hl
  obtain ⟨zs, hzs2⟩ : ∃ zs : Array Value, (ps.length * sz = 0 ∧ zs = #[]) ∨ (ps.length * sz ≠ 0 ∧ zs = z.cells) := by
    by_cases h : ps.length * sz = 0
    · exact ⟨#[], .inl ⟨h, rfl⟩⟩
    · exact ⟨z.cells, .inr ⟨h, rfl⟩⟩
  have hr0 : Reps g w ((Array.range (ps.length * sz)).map (zs[· % zs.size]!)) (List.replicate (ps.length * sz) .top) := by
    refine ⟨by simp, fun i v y _ hy => ?_⟩
    have : y = .top := by
      have := List.mem_of_getElem? hy
      exact List.eq_of_mem_replicate this
    subst this
    exact .top _
  have hp : ∀ (j : Nat) (p : Nat × Value) (q : Nat × Nat × AV), parts.toList[j]? = some p → (ps.zipIdx 0 |>.map fun p => (p.2 * sz, sz, p.1))[j]? = some q → (fun i => some (i * sz, sz)) p.1 = some (q.1, q.2.1) ∧ Rep g w p.2 q.2.2 := by
    intro j p q h1 h2
    rw [List.getElem?_map] at h2
    obtain ⟨q', hq', rfl⟩ := Option.map_eq_some_iff.1 h2
    rw [List.getElem?_zipIdx] at hq'
    obtain ⟨y, hy, rfl⟩ := Option.map_eq_some_iff.1 hq'
    have hj : parts[j]? = some p := by simpa using h1
    refine ⟨by simp [hi j p hj], hr j p y hj hy⟩
  obtain ⟨cells', hfill, hreps⟩ := fill_rep (g := g) (w := w) (fun i => some (i * sz, sz)) parts.toList (ps.zipIdx 0 |>.map fun p => (p.2 * sz, sz, p.1)) _ _ _ (by simp [hn]) hp hr0 (by simpa using afill_lit ps sz 0 [] hf (by simp))
  · obtain ⟨hE, hS'⟩ := sim_shut (w' := w.alloc (.cells cells' e)) (o := .cells cells' e) hS (by simp [World.alloc, -World.alloc_eq]) rfl rfl rfl
    have hnew : (w.alloc (.cells cells' e)).heap[w.heap.size]? = some (.cells cells' e (0, 0)) := by simp [World.alloc, -World.alloc_eq]
    have hfl := flat_length ps sz (fun p hp => (hf p hp).2)
    refine ⟨.slice (some ⟨w.heap.size, 0, none⟩) ps.length ps.length, _, _, _, _, ?_, hE, hS', ?_, hk⟩
    · have hle' : ¬ (ps.length * sz > 2 ^ 24) := by omega
      simp only [Instr.buildSlice, Sem.run_bind, run_underlying hu, Result.andThen_ok, run_sizeOf hs]
      rw [if_neg hle']
      rcases hzs2 with ⟨h, rfl⟩ | ⟨h, rfl⟩
      · rw [if_pos h]
        simp only [Sem.run_bind, Sem.run_pure, Result.andThen_ok]
        rw [hfill]
        rfl
      · rw [if_neg h]
        simp only [Sem.run_bind, Sem.run_pure, Result.andThen_ok, zeroValue, typeInfo, run_program, hinfo, hzero]
        rw [hfill]
        rfl
    · refine .imm sz ps w.heap.size 0 _ _ (fun k => cells'.getD k undef) rfl (Nat.le_refl _) (by
        have : ps.length * 1 ≤ ps.length * sz := Nat.mul_le_mul_left _ h0
        omega) (.inr rfl) (fun p hp => (hf p hp).2) (fun k hk => ?_) (fun j x i y hj hi => ?_)
      · have hk2 : k < cells'.size := by rw [hreps.1, hfl]; exact hk
        rw [Nat.zero_add, cell_of_row _ _ _ _ _ _ hnew]
        simp [hk2]
      · have h1 := flat_get ps sz j i x y (fun p hp => (hf p hp).2) hj hi
        obtain ⟨u, hu2, hrep⟩ := hreps.get h1
        have : cells'.getD (j * sz + i) undef = u := by
          rw [Array.getD_eq_getD_getElem?, hu2]; rfl
        rw [this]
        exact hrep.ext hE
theorem goes_litw {t e : TypeId} {sz n : Nat} {parts : Array (Nat × Value)} {ps : List AV} {K : AV → AHeap → Prop} (hS : Sim g w H) (ht : tElem P t = some (e, sz)) (hn : parts.size = n) (hz : zOk P e sz = true) (hle : n * sz ≤ 16777216) (h0 : 0 < sz)
    (hi : ∀ (j : Nat) (p : Nat × Value), parts[j]? = some p → p.1 = j) (hl : n = ps.length) (hr : ∀ (j : Nat) (p : Nat × Value) (y : AV), parts[j]? = some p → ps[j]? = some y → Rep g w p.2 y)
    (hf : ∀ p ∈ ps, p.flat = true ∧ p.cells.length = sz) (hk : K (.wr H.next 0 0 ps.length sz) (H.push (.row e 0 (ps.flatMap AV.cells)))) : Goes P g w (Instr.buildSlice t n parts) K := by
  obtain ⟨hu, hs⟩ := tElem_spec ht
  unfold zOk at hz
  split at hz <;> (try (cases hz; done))
  rename_i i hinfo
  split at hz <;> (try (cases hz; done))
  rename_i z hzero
  have hzs : z.cells.size = sz := by simpa using hz
  subst hl
  obtain ⟨zs, hzs2⟩ : ∃ zs : Array Value, (ps.length * sz = 0 ∧ zs = #[]) ∨ (ps.length * sz ≠ 0 ∧ zs = z.cells) := by
    by_cases h : ps.length * sz = 0
    · exact ⟨#[], .inl ⟨h, rfl⟩⟩
    · exact ⟨z.cells, .inr ⟨h, rfl⟩⟩
  have hr0 : Reps g w ((Array.range (ps.length * sz)).map (zs[· % zs.size]!)) (List.replicate (ps.length * sz) .top) := by
    refine ⟨by simp, fun i v y _ hy => ?_⟩
    have : y = .top := by
      have := List.mem_of_getElem? hy
      exact List.eq_of_mem_replicate this
    subst this
    exact .top _
  have hp : ∀ (j : Nat) (p : Nat × Value) (q : Nat × Nat × AV), parts.toList[j]? = some p → (ps.zipIdx 0 |>.map fun p => (p.2 * sz, sz, p.1))[j]? = some q → (fun i => some (i * sz, sz)) p.1 = some (q.1, q.2.1) ∧ Rep g w p.2 q.2.2 := by
    intro j p q h1 h2
    rw [List.getElem?_map] at h2
    obtain ⟨q', hq', rfl⟩ := Option.map_eq_some_iff.1 h2
    rw [List.getElem?_zipIdx] at hq'
    obtain ⟨y, hy, rfl⟩ := Option.map_eq_some_iff.1 hq'
    have hj : parts[j]? = some p := by simpa using h1
    refine ⟨by simp [hi j p hj], hr j p y hj hy⟩
  obtain ⟨cells', hfill, hreps⟩ := fill_rep (g := g) (w := w) (fun i => some (i * sz, sz)) parts.toList (ps.zipIdx 0 |>.map fun p => (p.2 * sz, sz, p.1)) _ _ _ (by simp [hn]) hp hr0 (by simpa using afill_lit ps sz 0 [] hf (by simp))
  · obtain ⟨hE, hS', hm, hsh⟩ := sim_push (e := e) (w' := w.alloc (.cells cells' e)) (us := cells') (pad := #[]) (lo := 0) (hi := 0) hS hreps (by simp [World.alloc, -World.alloc_eq]) (fun _ _ => by omega) rfl rfl rfl
    have hfl := flat_length ps sz (fun p hp => (hf p hp).2)
    have hcs : cells'.size = ps.length * sz := by rw [hreps.1, hfl]
    rw [empty_pad, hcs] at hsh
    refine ⟨.slice (some ⟨w.heap.size, 0, none⟩) ps.length ps.length, _, _, _, _, ?_, hE, hS', .wr _ _ _ _ _ _ _ e _ hm hsh (by omega) (Nat.le_refl _) (by
        have : ps.length * 1 ≤ ps.length * sz := Nat.mul_le_mul_left _ h0
        omega), hk⟩
    have hle' : ¬ (ps.length * sz > 2 ^ 24) := by omega
    simp only [Instr.buildSlice, Sem.run_bind, run_underlying hu, Result.andThen_ok, run_sizeOf hs]
    rw [if_neg hle']
    rcases hzs2 with ⟨h, rfl⟩ | ⟨h, rfl⟩
    · rw [if_pos h]
      simp only [Sem.run_bind, Sem.run_pure, Result.andThen_ok]
      rw [hfill]
      rfl
    · rw [if_neg h]
      simp only [Sem.run_bind, Sem.run_pure, Result.andThen_ok, zeroValue, typeInfo, run_program, hinfo, hzero]
      rw [hfill]
      rfl
end
end Go.Proofs.Ytblflecalomgfaa.AL
