/- Regions of open order in which a variable is made and then written to: told as one at the write. -/
import Derived.Test.YtblflecalomgfaaAL13
set_option linter.unusedVariables false
set_option linter.unusedSimpArgs false
namespace Go.Proofs.Ytblflecalomgfaa.AL
open Go
/-- Operation i makes a variable (slot d, elements of type e, n cells), operation j writes v to it. -/
structure AS where
  i : Nat
  j : Nat
  d : Nat
  e : TypeId
  n : Nat
  v : AX
  t : TypeId
def findAS (P : Program) (ops : Array Oper) (i j : Nat) : Option AS :=
  match ops[i]?, ops[j]? with
  | some oi, some oj => match oi.dst, oi.op, oi.guard, oj.dst, oj.op, oj.guard with
    | some d, .alloc e, none, none, .store t (.tmp d') v, none => match trX v, tSize P t, tZero P e with
      | some x, some n, some zs => if d' = d ∧ AX.is d x = false ∧ zs.length = n ∧ waitsFor ops j i = true then some ⟨i, j, d, e, n, x, t⟩ else none
      | _, _, _ => none
    | _, _, _, _, _, _ => none
  | _, _ => none
def topOp (p : AS) : AOper := ⟨some p.d, .q (.move (.const .top)), none⟩
def putOp (p : AS) : AOper := ⟨some p.d, .s (.put p.e p.n p.v), none⟩
def allAS (P : Program) (ops : Array Oper) : List AS := (List.range ops.size).filterMap fun i => (List.range ops.size).findSome? fun j => findAS P ops i j
def asOk (ops : Array Oper) (L : List AS) : Bool := L.all fun p => (L.all fun q => ((q.i == p.i && q.j == p.j && q.n == p.n) || (q.i != p.i && q.j != p.j && q.d != p.d))) && (List.range ops.size).all fun k => k == p.i || (match ops[k]? with | some o => o.dst != some p.d | none => true)
def withAS (L : List AS) (al : List AOper) : List AOper := (List.range al.length).map fun k =>
  match L.find? fun p => p.i == k with
  | some p => topOp p
  | none => match L.find? fun p => p.j == k with
    | some p => putOp p
    | none => (al[k]?).getD ⟨none, .q (.num 0), none⟩
def trDraw2 (P : Program) (W : List Nat) (ops : Array Oper) : Option (List AOper) :=
  match trOpers P W ops ops.toList with
  | some al0 =>
    let L := allAS P ops
    let al := turnAll ops (withAS L al0)
    let σ := planGo ops al ops.size (Array.replicate ops.size false)
    if asOk ops L = true ∧ al.length = al0.length ∧ σ.length = ops.size ∧ planOk ops al (Array.replicate ops.size false) σ = true then some (pick_ al σ) else none
  | none => none
section
variable {P : Program} {g : Ghost} {w : World} {H : AHeap} {act : Act} {a : List AV}
structure IsAS (P : Program) (ops : Array Oper) (p : AS) : Prop where
  two : ∃ oi oj v zs, ops[p.i]? = some oi ∧ ops[p.j]? = some oj ∧ oi.dst = some p.d ∧ oi.op = .alloc p.e ∧ oi.guard = none ∧ oj.dst = none ∧ oj.op = .store p.t (.tmp p.d) v ∧ oj.guard = none ∧
    trX v = some p.v ∧ tSize P p.t = some p.n ∧ tZero P p.e = some zs ∧ zs.length = p.n ∧ AX.is p.d p.v = false ∧ waitsFor ops p.j p.i = true
theorem findAS_spec {ops : Array Oper} {i j : Nat} {p : AS} (h : findAS P ops i j = some p) : p.i = i ∧ p.j = j ∧ IsAS P ops p := by
  unfold findAS at h
  split at h <;> (try (cases h; done))
  rename_i oi oj hi hj
  split at h <;> (try (cases h; done))
  rename_i d e t d' v h1 h2 h3 h4 h5 h6
  split at h <;> (try (cases h; done))
  rename_i x n zs hx hn hz
  split at h <;> (try (cases h; done))
  rename_i hc
  obtain ⟨rfl, c1, c2, c3⟩ := hc
  obtain rfl := Option.some.inj h
  exact ⟨rfl, rfl, ⟨oi, oj, v, zs, hi, hj, h1, h2, h3, h4, h5, h6, hx, hn, hz, c2, c1, c3⟩⟩
theorem allAS_spec {ops : Array Oper} {p : AS} (h : p ∈ allAS P ops) : IsAS P ops p := by
  unfold allAS at h
  obtain ⟨i, _, hi⟩ := List.mem_filterMap.1 h
  obtain ⟨j, _, hj⟩ := List.exists_of_findSome?_eq_some hi
  exact (findAS_spec hj).2.2
/-- What is open: variables that are made, and not written to yet. -/
def Pend (P : Program) (L : List AS) (w0 : World) (listed : Array Bool) (g : Ghost) (w : World) (act : Act) (β : Nat → Nat) : Prop :=
  (∀ p ∈ L, listed.getD p.i true = true → listed.getD p.j true = false → w0.heap.size ≤ β p.d ∧ ¬ Known g (β p.d) ∧ act.tmps[p.d]? = some (.pointer (some ⟨β p.d, 0, none⟩)) ∧ ∃ zc : Array Value, w.heap[β p.d]? = some (.cells zc p.e (0, 0)) ∧ zc.size = p.n) ∧
  (∀ p ∈ L, ∀ q ∈ L, listed.getD p.i true = true → listed.getD p.j true = false → listed.getD q.i true = true → listed.getD q.j true = false → p.d ≠ q.d → β p.d ≠ β q.d)
/-- A block more, of which nothing is told. -/
theorem more_block {o : Obj} {w' : World} (hS : Sim g w H) (hh : w'.heap = w.heap.push o) (h1 : w'.os = w.os) (h2 : w'.tape = w.tape) (h3 : w'.output = w.output) : Ext g w g w' ∧ Sim g w' H := by
  have hE : Ext g w g w' := ⟨fun _ _ _ h => h, fun _ h => h, fun b hb => heap_push_old o hh (hS.zlt b hb), fun b s h => shape_push o hh h, by rw [hh]; simp, h1, h2, h3, fun _ _ h => h, fun b hb _ => heap_push_old o hh hb⟩
  refine ⟨hE, ⟨fun b hb => ?_, fun id gen b hb => ?_, fun id o ho => (hS.live id o ho).ext hE (fun b hb => heap_push_old _ hh (hS.mlt _ _ _ hb).2), hS.inj, hS.nz, hS.gen⟩⟩
  · have := hS.zlt b hb
    rw [hh]; simp; omega
  · have := hS.mlt _ _ _ hb
    rw [hh]; simp; omega
/-- A block that was there, of which nothing was told, becomes a row. -/
theorem sim_adopt {e : TypeId} {b : Nat} {cur : Array Value} {ys : List AV} {w' : World} {zc : Array Value} (hS : Sim g w H) (hb : b < w.heap.size) (hk : ¬ Known g b) (hz : w.heap[b]? = some (.cells zc e (0, 0))) (hsz : cur.size = zc.size) (hh : w'.heap = w.heap.setIfInBounds b (.cells cur e (0, 0))) (hr : Reps g w cur ys) :
    Grow g w (g.add H.next 0 b) w' ∧ Sim (g.add H.next 0 b) w' (H.push (.row e 0 ys)) ∧ (g.add H.next 0 b).m H.next 0 = some b := by
  have hm : (g.add H.next 0 b).m H.next 0 = some b := by simp [Ghost.add]
  have hoth : ∀ k, k ≠ b → w'.heap[k]? = w.heap[k]? := by
    intro k hk
    rw [hh, Array.getElem?_setIfInBounds_ne (Ne.symm hk)]
  have hnew : w'.heap[b]? = some (.cells cur e (0, 0)) := by
    rw [hh, Array.getElem?_setIfInBounds_self_of_lt hb]
  have hz2 : ∀ k, g.Z k → k ≠ b := fun k h e => hk (.inl (e ▸ h))
  have hm2 : ∀ id gen k, g.m id gen = some k → k ≠ b := fun id gen k h e => hk (.inr ⟨id, gen, e ▸ h⟩)
  have hG : Grow g w (g.add H.next 0 b) w' := by
    refine ⟨fun i k c h => ?_, fun _ h => h, fun k h => hoth k (hz2 k h), fun k s h => ?_⟩
    · simp only [Ghost.add]
      split
      · rename_i hc
        rw [hc.1, hc.2, m_new hS 0] at h; cases h
      · exact h
    · unfold World.shape? at h ⊢
      by_cases hkb : k = b
      · subst hkb
        rw [hz] at h
        rw [hnew]
        simp only at h ⊢
        rw [hsz]
        exact h
      · rw [hoth k hkb]; exact h
  have hold : ∀ id gen c, (g.add H.next 0 b).m id gen = some c → (id = H.next ∧ gen = 0 ∧ c = b) ∨ g.m id gen = some c := by
    intro id gen c h
    simp only [Ghost.add] at h
    split at h
    · rename_i hc; exact .inl ⟨hc.1, hc.2, (Option.some.inj h).symm⟩
    · exact .inr h
  have hlive : ∀ id o, H.get id = some o → ∀ c, (g.add H.next 0 b).m id o.gen = some c → g.m id o.gen = some c := by
    intro id o ho c hc
    rcases hold _ _ _ hc with ⟨h, _⟩ | h
    · have := H.lt ho; omega
    · exact h
  have hwsz : w'.heap.size = w.heap.size := by rw [hh]; simp
  have hcase : ∀ id o, (H.push (.row e 0 ys)).get id = some o → (id = H.next ∧ o = .row e 0 ys) ∨ (id ≠ H.next ∧ H.get id = some o) := by
    intro id o h
    rw [push_get] at h
    split at h
    · rename_i hid; exact .inl ⟨hid, (Option.some.inj h).symm⟩
    · rename_i hid; exact .inr ⟨hid, h⟩
  refine ⟨hG, ⟨fun c hc => ?_, fun id gen c hc => ?_, fun id o ho => ?_, fun id id' o o' c ho ho' hc hc' => ?_, fun id o c ho hc => ?_, fun id o gen c ho hc => ?_⟩, hm⟩
  · rw [hwsz]; exact hS.zlt c hc
  · rw [hwsz, push_next]
    rcases hold _ _ _ hc with ⟨rfl, rfl, rfl⟩ | h
    · exact ⟨by omega, hb⟩
    · have := hS.mlt _ _ _ h; omega
  · rcases hcase _ _ ho with ⟨rfl, rfl⟩ | ⟨hid, h⟩
    · refine ⟨b, cur, 0, 0, hm, hnew, fun _ _ => by omega, by simp [hr.1], fun i y hy => ?_⟩
      obtain ⟨u, hu, hrep⟩ := hr.get hy
      exact ⟨u, hu, hrep.grow hG⟩
    · exact (hS.live id o h).grow hG (fun c hc => hoth c (hm2 _ _ _ hc))
  · rcases hcase _ _ ho with ⟨rfl, rfl⟩ | ⟨hid, h⟩
    · rcases hcase _ _ ho' with ⟨rfl, rfl⟩ | ⟨hid', h'⟩
      · rfl
      · simp only [AObj.gen] at hc
        rw [hm] at hc
        obtain rfl := Option.some.inj hc
        exact absurd rfl (hm2 _ _ _ (hlive _ _ h' _ hc'))
    · rcases hcase _ _ ho' with ⟨rfl, rfl⟩ | ⟨hid', h'⟩
      · simp only [AObj.gen] at hc'
        rw [hm] at hc'
        obtain rfl := Option.some.inj hc'
        exact absurd rfl (hm2 _ _ _ (hlive _ _ h _ hc))
      · exact hS.inj _ _ _ _ c h h' (hlive _ _ h _ hc) (hlive _ _ h' _ hc')
  · rcases hcase _ _ ho with ⟨rfl, rfl⟩ | ⟨hid, h⟩
    · simp only [AObj.gen] at hc
      rw [hm] at hc
      obtain rfl := Option.some.inj hc
      exact fun hz' => hk (.inl hz')
    · exact hS.nz id o c h (hlive _ _ h _ hc)
  · rcases hcase _ _ ho with ⟨rfl, rfl⟩ | ⟨hid, h⟩
    · rcases hold _ _ _ hc with ⟨_, h, _⟩ | h
      · simp [AObj.gen, h]
      · rw [m_new hS gen] at h; cases h
    · rcases hold _ _ _ hc with ⟨h2, _⟩ | h2
      · have := H.lt h; omega
      · exact hS.gen id o gen c h h2
theorem listed_set {listed : Array Bool} {k i : Nat} (d : Bool) (h : i ≠ k) : (listed.setIfInBounds k true).getD i d = listed.getD i d := by
  rw [Array.getD_eq_getD_getElem?, Array.getD_eq_getD_getElem?, Array.getElem?_setIfInBounds_ne (Ne.symm h)]
theorem asOk_spec {ops : Array Oper} {L : List AS} (h : asOk ops L = true) : (∀ p ∈ L, ∀ q ∈ L, (q.i = p.i ∧ q.j = p.j ∧ q.n = p.n) ∨ (q.i ≠ p.i ∧ q.j ≠ p.j ∧ q.d ≠ p.d)) ∧ ∀ p ∈ L, ∀ (k : Nat) (o : Oper), ops[k]? = some o → k ≠ p.i → o.dst ≠ some p.d := by
  unfold asOk at h
  rw [List.all_eq_true] at h
  refine ⟨fun p hp q hq => ?_, fun p hp k o ho hk => ?_⟩
  · have := h p hp
    rw [Bool.and_eq_true, List.all_eq_true] at this
    have := this.1 q hq
    simpa [and_assoc] using this
  · have := h p hp
    rw [Bool.and_eq_true, List.all_eq_true, List.all_eq_true] at this
    have hlt : k < ops.size := (Array.getElem?_eq_some_iff.1 ho).1
    have := this.2 k (List.mem_range.2 hlt)
    rw [ho] at this
    simpa [hk] using this
theorem aAny_sound2 {W : List Nat} {ops : Array Oper} {al : List AOper} {L : List AS} {Q : List AV → AHeap → Prop} {Qc : Exit → Act → World → Prop} (hL : ∀ p ∈ L, IsAS P ops p) (hok : asOk ops L = true)
    (hal : ∀ (i : Nat) (o : Oper), ops[i]? = some o → ∃ ao', al[i]? = some ao' ∧ ((∃ p ∈ L, p.i = i ∧ ao' = topOp p) ∨ (∃ p ∈ L, p.j = i ∧ ao' = putOp p) ∨ ((∀ p ∈ L, p.i ≠ i ∧ p.j ≠ i) ∧ ∃ ao, trOper P W ops o = some ao ∧ (ao' = ao ∨ ao' = turnC ao))))
    {g0 : Ghost} {w0 : World} {H0 : AHeap} (hS0 : Sim g0 w0 H0) :
    ∀ (fuel : Nat) (listed : Array Bool) (g : Ghost) (w : World) (H : AHeap) (act : Act) (a : List AV) (β : Nat → Nat), Ext g0 w0 g w → Sim g w H → RepAct g w act a → Pend P L w0 listed g w act β → (∀ p ∈ L, p.d < act.tmps.size) → aAny (ACalls P) ops al Q fuel listed a H →
      (∀ a' H' g' w' act', Q a' H' → Ext g0 w0 g' w' → Sim g' w' H' → RepAct g' w' act' a' → Qc .normal act' w') → wpAny P .any ops Qc fuel listed act w
  | 0, listed, g, w, H, act, a, β, hE, hS, hR, hP, hD, h, hn => ⟨h.1, hn a H g w act h.2 hE hS hR⟩
  | fuel + 1, listed, g, w, H, act, a, β, hE, hS, hR, hP, hD, h, hn => by
    refine ⟨fun hh => hn a H g w act (h.1 hh) hE hS hR, fun k hk => ?_⟩
    have h1 := h.2 k hk
    obtain ⟨hnl, o, ho, haft⟩ := mem_ready.1 hk
    obtain ⟨ok1, ok2⟩ := asOk_spec hok
    have hklt : k < ops.size := (Array.getElem?_eq_some_iff.1 ho).1
    have hkl : k < listed.size := by
      rcases Nat.lt_or_ge k listed.size with h2 | h2
      · exact h2
      · rw [Array.getD_eq_getD_getElem?, Array.getElem?_eq_none h2] at hnl; cases hnl
    have hset : (listed.setIfInBounds k true).getD k true = true := by
      rw [Array.getD_eq_getD_getElem?, Array.getElem?_setIfInBounds_self_of_lt hkl]; rfl
    have hlt : ∀ {b : Nat} {x : Obj}, w.heap[b]? = some x → b < w.heap.size := fun hh => (Array.getElem?_eq_some_iff.1 hh).1
    obtain ⟨ao', hao, hkind⟩ := hal k o ho
    unfold stepAt at h1
    rw [hao] at h1
    unfold wpOp
    rw [ho]
    rcases hkind with ⟨p, hp, hpi, rfl⟩ | ⟨p, hp, hpj, rfl⟩ | ⟨hno, ao, htr, hturn⟩
    · obtain ⟨oi, oj, v, zs, e1, e2, e3, e4, e5, e6, e7, e8, e9, e10, e11, e12, e13, e14⟩ := (hL p hp).two
      subst hpi
      rw [ho] at e1
      obtain rfl := Option.some.inj e1
      have hw : Region.wanted o (yielded ops act.tmps) = true := by simp [Region.wanted, e5]
      simp only [hw, if_true]
      left
      obtain ⟨i, z, hi, hz1, hz2⟩ := zero_spec e11
      have hzc : z.cells.size = p.n := by
        have := (trV_reps (g := g) (w := w) _ _ hz2).1
        simp at this
        omega
      unfold Oper.wp
      have he : (execOp act.eval o).run P w = .ok (.value (.pointer (some ⟨w.heap.size, 0, none⟩))) (w.alloc (.cells z.cells p.e)) := by
        simp [execOp, e4, Instr.alloc, zeroValue, typeInfo, hi, hz1, newVar, newRow]
      rw [he, Oper.upon_value]
      have hh : (w.alloc (.cells z.cells p.e)).heap = w.heap.push (.cells z.cells p.e (0, 0)) := by simp [World.alloc, -World.alloc_eq]
      obtain ⟨hE1, hS1⟩ := more_block hS hh rfl rfl rfl
      have h2 : aAny (ACalls P) ops al Q fuel (listed.setIfInBounds p.i true) (aput a (some p.d) .top) H := by
        obtain ⟨y, hy, h3⟩ := h1
        obtain rfl := Option.some.inj hy
        exact h3
      rw [e3]
      have hnij : ∀ q ∈ L, q.j ≠ p.i := by
        intro q hq hqe
        obtain ⟨_, oj', _, _, _, f2, _, _, _, _, f7, _⟩ := (hL q hq).two
        rw [hqe, ho] at f2
        obtain rfl := Option.some.inj f2
        rw [e4] at f7
        cases f7
      refine aAny_sound2 hL hok hal hS0 fuel _ g _ H _ _ (fun x => if x = p.d then w.heap.size else β x) (hE.trans hE1) hS1 (hR.put hE1 (.top _) (some p.d)) ⟨fun q hq q1 q2 => ?_, fun q hq q' hq' r1 r2 r3 r4 r5 => ?_⟩ (fun q hq => by simpa [Act.put] using hD q hq) h2 hn
      · rcases ok1 p hp q hq with ⟨f1, f2, f3⟩ | ⟨f1, f2, f3⟩
        · obtain ⟨oi', _, _, _, k1, _, k3, k4, _⟩ := (hL q hq).two
          rw [f1, ho] at k1
          obtain rfl := Option.some.inj k1
          rw [e3] at k3
          have hd : q.d = p.d := (Option.some.inj k3).symm
          rw [e4] at k4
          have hee : q.e = p.e := by injection k4 with k4; exact k4.symm
          dsimp only
          rw [hd, if_pos rfl]
          refine ⟨hE.size, fun hk' => ?_, ?_, z.cells, ?_, by rw [hzc, f3]⟩
          · rcases hk' with hk' | ⟨id, gen, hk'⟩
            · have := hS.zlt _ hk'; omega
            · have := (hS.mlt _ _ _ hk').2; omega
          · simp only [Act.put]
            exact Array.getElem?_setIfInBounds_self_of_lt (hD p hp)
          · rw [hh, hee]; simp
        · rw [listed_set _ f1] at q1
          rw [listed_set _ (hnij q hq)] at q2
          obtain ⟨b1, b2, b3, zc, b4, b5⟩ := hP.1 q hq q1 q2
          dsimp only
          rw [if_neg f3]
          refine ⟨b1, b2, ?_, zc, ?_, b5⟩
          · rw [put_other _ _ _ _ (fun e => f3 (Option.some.inj e).symm)]
            exact b3
          · rw [heap_push_old _ hh (hlt b4)]
            exact b4
      · have old : ∀ q ∈ L, q.d ≠ p.d → (listed.setIfInBounds p.i true).getD q.i true = true → (listed.setIfInBounds p.i true).getD q.j true = false → listed.getD q.i true = true ∧ listed.getD q.j true = false ∧ β q.d < w.heap.size := by
          intro q hq hqd s1 s2
          rcases ok1 p hp q hq with ⟨f1, f2, f3⟩ | ⟨f1, f2, f3⟩
          · obtain ⟨oi', _, _, _, k1, _, k3, _⟩ := (hL q hq).two
            rw [f1, ho] at k1
            obtain rfl := Option.some.inj k1
            rw [e3] at k3
            exact absurd (Option.some.inj k3).symm hqd
          · rw [listed_set _ f1] at s1
            rw [listed_set _ (hnij q hq)] at s2
            obtain ⟨_, _, _, _, b4, _⟩ := hP.1 q hq s1 s2
            exact ⟨s1, s2, hlt b4⟩
        by_cases c1 : q.d = p.d
        · by_cases c2 : q'.d = p.d
          · exact absurd (c1.trans c2.symm) r5
          · obtain ⟨_, _, b⟩ := old q' hq' c2 r3 r4
            dsimp only
            rw [c1, if_pos rfl, if_neg c2]
            omega
        · obtain ⟨s1, s2, b⟩ := old q hq c1 r1 r2
          by_cases c2 : q'.d = p.d
          · dsimp only
            rw [if_neg c1, c2, if_pos rfl]
            omega
          · obtain ⟨s3, s4, _⟩ := old q' hq' c2 r3 r4
            dsimp only
            rw [if_neg c1, if_neg c2]
            exact hP.2 q hq q' hq' s1 s2 s3 s4 r5
    · obtain ⟨oi, oj, v, zs, e1, e2, e3, e4, e5, e6, e7, e8, e9, e10, e11, e12, e13, e14⟩ := (hL p hp).two
      subst hpj
      rw [ho] at e2
      obtain rfl := Option.some.inj e2
      have hw : Region.wanted o (yielded ops act.tmps) = true := by simp [Region.wanted, e8]
      simp only [hw, if_true]
      left
      have hli : listed.getD p.i true = true := by
        unfold waitsFor at e14
        rw [ho] at e14
        obtain ⟨ed, hed, hb⟩ := Array.any_eq_true'.1 e14
        rw [Bool.and_eq_true] at hb
        have := haft ed hed hb.1
        have he : ed.on = p.i := by simpa using hb.2
        rw [he, Array.getD_eq_getD_getElem?] at this
        rw [Array.getD_eq_getD_getElem?]
        cases hq : listed[p.i]? with
        | none => rw [hq] at this; cases this
        | some c => rw [hq] at this; exact this
      obtain ⟨b1, b2, b3, zc, b4, b5⟩ := hP.1 p hp hli hnl
      generalize hb0 : β p.d = b at b1 b2 b3 b4
      obtain ⟨⟨hf, hone, hlen⟩, h3⟩ := h1
      have hv : Rep g w (act.eval v) (p.v.ev a) := trX_rep hR e9
      have hr := hv.cells (by intro h; rw [h] at hf; simp [AV.flat, AV.one] at hf)
      have hvs : (act.eval v).cells.size = p.n := by rw [hr.1, hlen]
      have hones : ∀ u ∈ (act.eval v).cells.toList, u.oneCell' = true := by
        intro u hu
        obtain ⟨i, hi⟩ := List.getElem?_of_mem hu
        have hil : i < (p.v.ev a).cells.length := by rw [← hr.1]; have := (List.getElem?_eq_some_iff.1 hi).1; simpa using this
        have h2 := hr.2 i u _ (by simpa using hi) (List.getElem?_eq_getElem hil)
        exact one_one h2 (by rw [List.all_eq_true] at hone; exact hone _ (List.getElem_mem _))
      obtain ⟨w', cur', r1, r2, r3, r4, r5, r6, r7⟩ := run_stores (P := P) (act.eval v).cells.toList 0 b 0 w zc p.e 0 0 b4 (by simp; omega) (fun _ _ => by omega) hones
      have hrc : Reps g w cur' (p.v.ev a).cells := by
        refine ⟨by rw [r6, b5, ← hlen], fun i u y hu hy => ?_⟩
        have hi : i < (p.v.ev a).cells.length := (List.getElem?_eq_some_iff.1 hy).1
        rw [r7 i, if_pos (by simp; rw [hvs]; omega)] at hu
        exact hr.2 i u y (by simpa using hu) hy
      obtain ⟨hG, hS', hm⟩ := sim_adopt hS (hlt b4) b2 b4 r6 r2 hrc
      have hpt : act.eval (.tmp p.d) = .pointer (some ⟨b, 0, none⟩) := by
        show act.tmps.getD p.d undef = _
        rw [Array.getD_eq_getD_getElem?, b3]; rfl
      unfold Oper.wp
      have he : (execOp act.eval o).run P w = .ok .skip w' := by
        simp [execOp, e7, hpt, Instr.storeAt, Instr.sureAddr, storeVar, run_sizeOf e10, hvs, r1]
      rw [he]
      show wpAny P .any ops Qc fuel (listed.setIfInBounds p.j true) (act.put o.dst undef) w'
      rw [e6]
      have hoth : ∀ k, k ≠ b → w'.heap[k]? = w.heap[k]? := by
        intro k hk
        rw [r2, Array.getElem?_setIfInBounds_ne (Ne.symm hk)]
      have hkn : ∀ k, Known (g.add H.next 0 b) k → k = b ∨ Known g k := by
        intro k hk
        rcases hk with hk | ⟨id, gen, hk⟩
        · exact .inr (.inl hk)
        · simp only [Ghost.add] at hk
          split at hk
          · exact .inl (Option.some.inj hk).symm
          · exact .inr (.inr ⟨id, gen, hk⟩)
      have hE' : Ext g0 w0 (g.add H.next 0 b) w' := by
        refine ⟨fun id gen c hc => hG.m _ _ _ (hE.m _ _ _ hc), fun c hc => hG.z _ (hE.z _ hc), fun c hc => ?_, fun c s hc => hG.shape _ _ (hE.shape _ _ hc), ?_, r3.trans hE.os, r4.trans hE.tape, r5.trans hE.output, fun c hc hk => ?_, fun c hc hk => ?_⟩
        · have := hS0.zlt _ hc
          rw [hoth c (by omega)]
          exact hE.same c hc
        · rw [r2]; simp; exact hE.size
        · rcases hkn c hk with rfl | hk
          · omega
          · exact hE.known c hc hk
        · rw [hoth c (by omega)]
          exact hE.other c hc hk
      have hR' : RepAct (g.add H.next 0 b) w' act (aput a (some p.d) (.ptr H.next 0 0)) := by
        have hR1 := hR.grow hG
        refine ⟨hR1.defers, by simp [aput, hR1.size], fun i u y hu hy => ?_⟩
        simp only [aput] at hy
        by_cases hi : p.d = i
        · subst hi
          rw [b3] at hu
          obtain rfl := Option.some.inj hu
          rw [List.getElem?_set_self (by rw [← hR1.size]; exact hD p hp)] at hy
          obtain rfl := Option.some.inj hy
          exact .ptr _ _ _ _ hm
        · rw [List.getElem?_set_ne hi] at hy
          exact hR1.rep i u y hu hy
      have hnij : ∀ q ∈ L, q.i ≠ p.j := by
        intro q hq hqe
        obtain ⟨oi', _, _, _, f1, _, _, f4, _⟩ := (hL q hq).two
        rw [hqe, ho] at f1
        obtain rfl := Option.some.inj f1
        rw [e7] at f4
        cases f4
      refine aAny_sound2 hL hok hal hS0 fuel _ _ w' _ act _ β hE' hS' hR' ⟨fun q hq q1 q2 => ?_, fun q hq q' hq' r1 r2 r3 r4 r5 => ?_⟩ hD h3 hn
      · have hqj : q.j ≠ p.j := by
          intro e
          rw [e, hset] at q2
          cases q2
        rw [listed_set _ (hnij q hq)] at q1
        rw [listed_set _ hqj] at q2
        obtain ⟨c1, c2, c3, zc', c4, c5⟩ := hP.1 q hq q1 q2
        have hqd : q.d ≠ p.d := by
          rcases ok1 p hp q hq with ⟨f1, f2, f3⟩ | ⟨f1, f2, f3⟩
          · exact absurd f2 hqj
          · exact f3
        have hne : β q.d ≠ b := by
          rw [← hb0]
          exact hP.2 q hq p hp q1 q2 hli hnl hqd
        refine ⟨c1, fun hk' => ?_, c3, zc', by rw [hoth _ hne]; exact c4, c5⟩
        rcases hkn _ hk' with hk' | hk'
        · exact hne hk'
        · exact c2 hk'
      · have hqj : ∀ q : AS, (listed.setIfInBounds p.j true).getD q.j true = false → q.j ≠ p.j := by
          intro q s e
          rw [e, hset] at s
          cases s
        rw [listed_set _ (hnij q hq)] at r1
        rw [listed_set _ (hqj q r2)] at r2
        rw [listed_set _ (hnij q' hq')] at r3
        rw [listed_set _ (hqj q' r4)] at r4
        exact hP.2 q hq q' hq' r1 r2 r3 r4 r5
    · have h2 : astep (ACalls P) ao a H (aAny (ACalls P) ops al Q fuel (listed.setIfInBounds k true)) := by
        rcases hturn with rfl | rfl
        · exact h1
        · exact turn_step calls_mono h1
      refine astep_sound htr hS hR h2 (fun a' H' g' w' act' q hE' hS' hR' htm => aAny_sound2 hL hok hal hS0 fuel _ g' w' H' act' a' β (hE.trans hE') hS' hR' ⟨fun p hp q1 q2 => ?_, fun p hp q hq r1 r2 r3 r4 r5 => ?_⟩ (fun p hp => ?_) q hn)
      · have hno1 := hno p hp
        rw [listed_set _ (hno1.1)] at q1
        rw [listed_set _ (hno1.2)] at q2
        obtain ⟨b1, b2, b3, zc, b4, b5⟩ := hP.1 p hp q1 q2
        refine ⟨b1, fun hk' => b2 (hE'.known _ (hlt b4) hk'), ?_, zc, ?_, b5⟩
        · rw [htm _ (ok2 p hp k o ho (Ne.symm hno1.1))]
          exact b3
        · rw [hE'.other _ (hlt b4) b2]
          exact b4
      · rw [listed_set _ ((hno p hp).1)] at r1
        rw [listed_set _ ((hno p hp).2)] at r2
        rw [listed_set _ ((hno q hq).1)] at r3
        rw [listed_set _ ((hno q hq).2)] at r4
        exact hP.2 p hp q hq r1 r2 r3 r4 r5
      · have h4 := htm p.d (ok2 p hp k o ho (Ne.symm (hno p hp).1))
        rw [Array.getElem?_eq_getElem (hD p hp)] at h4
        exact (Array.getElem?_eq_some_iff.1 h4).1
theorem turn_top (p : AS) : turnC (topOp p) = topOp p := rfl
theorem turn_put (p : AS) : turnC (putOp p) = putOp p := rfl
theorem draw_sound2 {W : List Nat} {ops : Array Oper} {al : List AOper} {id : Nat} {Q : List AV → AHeap → Prop} {Qc : Exit → Act → World → Prop} (hm : P.follows .mixedOrders = true) (h : trDraw2 P W ops = some al) (hN : ((allAS P ops).map fun p => p.d + 1).foldl max 0 ≤ a.length) (hS : Sim g w H) (hR : RepAct g w act a) (hk : aops (ACalls P) al a H Q)
    (hn : ∀ a' H' g' w' act', Q a' H' → Ext g w g' w' → Sim g' w' H' → RepAct g' w' act' a' → Qc .normal act' w') : (Code.region id ops true).wp P Qc act w := by
  unfold trDraw2 at h
  split at h <;> (try (cases h; done))
  rename_i al0 h0
  simp only at h
  split at h <;> (try (cases h; done))
  rename_i hc
  obtain ⟨c0, c1, c2, c3⟩ := hc
  obtain rfl := Option.some.inj h
  obtain ⟨hl, hget⟩ := trOpers_get _ _ h0
  have hsz : ops.size = (turnAll ops (withAS (allAS P ops) al0)).length := by rw [c1, ← hl]; simp
  obtain ⟨hE, hS'⟩ := hS.heap (w' := { w with drawn := w.drawn + 1 }) rfl rfl rfl rfl
  have h1 := plan_sound (calls_mono (P := P)) hsz _ _ a H c3 hk
  rw [c2] at h1
  have hfold : ∀ (l : List Nat) (x m : Nat), x ∈ l → x ≤ l.foldl max m := by
    intro l
    induction l with
    | nil => intro x m hx; simp at hx
    | cons y l ih =>
      intro x m hx
      have hge : ∀ (l : List Nat) (m : Nat), m ≤ l.foldl max m := by
        intro l
        induction l with
        | nil => intro m; exact Nat.le_refl _
        | cons z l ih2 => intro m; exact Nat.le_trans (Nat.le_max_left _ _) (ih2 (max m z))
      rcases List.mem_cons.1 hx with rfl | hx
      · exact Nat.le_trans (Nat.le_max_right _ _) (hge l _)
      · exact ih x _ hx
  have hrep : ∀ (p : AS), (Array.replicate ops.size false).getD p.i true = true → p.i < ops.size → False := by
    intro p hp hlt
    rw [Array.getD_eq_getD_getElem?, Array.getElem?_replicate, if_pos hlt] at hp
    cases hp
  have hlti : ∀ p ∈ allAS P ops, p.i < ops.size := by
    intro p hp
    obtain ⟨oi, _, _, _, e1, _⟩ := (allAS_spec hp).two
    exact (Array.getElem?_eq_some_iff.1 e1).1
  refine wp_region_any hm (aAny_sound2 (W := W) (fun p hp => allAS_spec hp) c0 (fun i o ho => ?_) hS ops.size _ g _ H act a (fun _ => 0) hE hS' (hR.ext hE) ⟨fun p hp q1 _ => (hrep p q1 (hlti p hp)).elim, fun p hp q hq q1 _ _ _ _ => (hrep p q1 (hlti p hp)).elim⟩ (fun p hp => ?_) h1 hn)
  · obtain ⟨ao, hao, htr⟩ := hget i o (by simpa using ho)
    have hil : i < al0.length := (List.getElem?_eq_some_iff.1 hao).1
    have hw : ∃ aw, (withAS (allAS P ops) al0)[i]? = some aw ∧ ((∃ p ∈ allAS P ops, p.i = i ∧ aw = topOp p) ∨ (∃ p ∈ allAS P ops, p.j = i ∧ aw = putOp p) ∨ ((∀ p ∈ allAS P ops, p.i ≠ i ∧ p.j ≠ i) ∧ aw = ao)) := by
      unfold withAS
      rw [List.getElem?_map, List.getElem?_range hil]
      simp only [Option.map_some, hao, Option.getD_some]
      cases hf : (allAS P ops).find? fun p => p.i == i with
      | some p =>
        have := List.find?_some hf
        exact ⟨_, rfl, .inl ⟨p, List.mem_of_find?_eq_some hf, by simpa using this, rfl⟩⟩
      | none =>
        cases hf2 : (allAS P ops).find? fun p => p.j == i with
        | some p =>
          have := List.find?_some hf2
          exact ⟨_, rfl, .inr (.inl ⟨p, List.mem_of_find?_eq_some hf2, by simpa using this, rfl⟩)⟩
        | none =>
          refine ⟨_, rfl, .inr (.inr ⟨fun p hp => ⟨?_, ?_⟩, rfl⟩)⟩
          · simpa using List.find?_eq_none.1 hf p hp
          · simpa using List.find?_eq_none.1 hf2 p hp
    obtain ⟨aw, haw, hkind⟩ := hw
    obtain ⟨ao', h2, h3⟩ := turnAll_get ops _ i aw haw
    refine ⟨ao', h2, ?_⟩
    rcases hkind with ⟨p, hp, hpi, rfl⟩ | ⟨p, hp, hpj, rfl⟩ | ⟨hno, rfl⟩
    · refine .inl ⟨p, hp, hpi, ?_⟩
      rcases h3 with rfl | rfl <;> rfl
    · refine .inr (.inl ⟨p, hp, hpj, ?_⟩)
      rcases h3 with rfl | rfl <;> rfl
    · exact .inr (.inr ⟨hno, _, htr, h3⟩)
  · rw [hR.size]
    have := hfold ((allAS P ops).map fun p => p.d + 1) (p.d + 1) 0 (List.mem_map.2 ⟨p, hp, rfl⟩)
    omega
end
end Go.Proofs.Ytblflecalomgfaa.AL
