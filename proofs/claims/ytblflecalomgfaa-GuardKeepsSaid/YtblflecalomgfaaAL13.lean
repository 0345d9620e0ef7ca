/- Regions whose order is open: told in one order, whatever order is drawn. -/
import Derived.Test.YtblflecalomgfaaAL12
import Derived.Orders
set_option linter.unusedVariables false
set_option linter.unusedSimpArgs false
namespace Go.Proofs.Ytblflecalomgfaa.AL
open Go
def QOp.reads : QOp → List AX
  | .move x | .un _ x | .conv _ x | .same x | .b2s x | .load _ _ x | .loadr _ _ x | .field _ _ _ x | .fieldAddr _ x | .extract _ x | .len _ x | .iface _ x | .nonil x => [x]
  | .pick c x y => [c, x, y]
  | .bin _ x y | .beq _ x y | .nil _ _ x y | .seq _ _ x y | .idxSl _ x y | .idxPt _ _ x y | .idxStr x y | .idxArr _ _ _ x y | .best _ x y => [x, y]
  | .build _ ps => ps.map (·.2.2)
  | .num _ => []
  | .mkFunc _ fs cs => fs ++ cs
  | .sliceStr x lo hi | .sliceSl _ x lo hi | .sliceArr _ _ x lo hi => x :: (lo.toList ++ hi.toList)
def SOp.reads : SOp → List AX
  | .alloc _ _ => []
  | .box _ x | .s2b _ x | .put _ _ x => [x]
  | .mk _ _ _ _ n => [n]
  | .store _ x v => [x, v]
  | .lit _ _ ps | .litw _ _ ps => ps
  | .app _ _ _ s x | .copy _ s x => [s, x]
  | .call _ args => args
  | .callv x args => x :: args
  | .stop | .mkmap => []
  | .lookup _ _ _ m k => [m, k]
  | .mapup _ m k v => [m, k, v]
  | .mlen m => [m]
  | .bests _ x xs => x :: xs
  | .slice3 _ x hi mx => [x, hi, mx]
def AOp.reads : AOp → List AX
  | .q x => x.reads
  | .s x => x.reads
  | .c (.fn _) args => args
  | .c (.val x) args => x :: args
def AX.is (t : Nat) : AX → Bool
  | .tmp u => u == t
  | .const _ => false
def AOper.looks (o : AOper) (t : Nat) : Bool := o.op.reads.any (AX.is t) || (match o.guard with | some (u, _) => u == t | none => false)
/-- What it does with memory: 0: nothing; 1: it reads; 2: it makes a variable; 3: else. -/
def AOp.cls : AOp → Nat
  | .q (.load _ _ _) | .q (.b2s _) | .q (.sliceArr _ _ _ _ _) | .c _ _ => 1
  | .q _ => 0
  | .s (.lit _ _ _) => 0
  | .s (.alloc _ _) => 2
  | .s _ => 3
def AOp.isLoad : AOp → Bool
  | .q (.load _ _ _) => true
  | _ => false
def noLook (d : Option Nat) (o : AOper) : Bool := match d with
  | some t => !o.looks t && o.dst != some t
  | none => true
def pairOk (x y : AOper) : Bool := noLook x.dst y && noLook y.dst x && (x.op.cls == 0 || y.op.cls ≤ 1 || (x.op.isLoad && y.op.cls == 2))
section
variable {P : Program} {C : (Nat → List AV → AHeap → (AV → AHeap → Prop) → Prop)} {H : AHeap} {a : List AV}
theorem ev_put {d : Option Nat} {y : AV} {x : AX} (h : ∀ t, d = some t → AX.is t x = false) : AX.ev (aput a d y) x = AX.ev a x := by
  cases d with
  | none => rfl
  | some t =>
    cases x with
    | const v => rfl
    | tmp u =>
      have := h t rfl
      simp only [AX.is, beq_eq_false_iff_ne, ne_eq] at this
      simp only [AX.ev, aput]
      rw [List.getD_eq_getElem?_getD, List.getD_eq_getElem?_getD, List.getElem?_set_ne (Ne.symm this)]
theorem put_comm {d e : Option Nat} {y z : AV} (h : ∀ t, d = some t → e ≠ some t) : aput (aput a d y) e z = aput (aput a e z) d y := by
  cases d with
  | none => rfl
  | some t =>
    cases e with
    | none => rfl
    | some u => exact List.set_comm _ _ (fun hh => h t rfl (by rw [hh]))
theorem map_congr' {ρ ρ' : AX → AV} {l : List AX} (h : ∀ x ∈ l, ρ x = ρ' x) : l.map ρ = l.map ρ' := List.map_congr_left h
theorem aq_congr {ρ ρ' : AX → AV} (q : QOp) (h : ∀ x ∈ q.reads, ρ x = ρ' x) : aq H ρ q = aq H ρ' q := by
  cases q <;> simp only [QOp.reads] at h <;> simp only [aq]
  case build z ps =>
    congr 2
    apply List.map_congr_left
    intro p hp
    rw [h p.2.2 (List.mem_map.2 ⟨p, hp, rfl⟩)]
  case mkFunc fn fs cs => rw [map_congr' (fun x hx => h x (by simp [hx])), map_congr' (l := cs) (fun x hx => h x (by simp [hx]))]
  case sliceStr x lo hi =>
    rw [h x (by simp)]
    cases lo <;> cases hi <;> simp_all
  case sliceArr sz n x lo hi =>
    rw [h x (by simp)]
    cases lo <;> cases hi <;> simp_all
  case sliceSl sz x lo hi =>
    rw [h x (by simp)]
    cases lo <;> cases hi <;> simp_all
  all_goals simp_all
theorem as_congr {ρ ρ' : AX → AV} (s : SOp) (h : ∀ x ∈ s.reads, ρ x = ρ' x) (K : AV → AHeap → Prop) : as_ C H ρ s K = as_ C H ρ' s K := by
  cases s <;> simp only [SOp.reads] at h <;> simp only [as_]
  case lit e sz ps =>
    rw [map_congr' h]
    congr 1
    apply propext
    constructor
    · intro hh p hp; rw [← h p hp]; exact hh p hp
    · intro hh p hp; rw [h p hp]; exact hh p hp
  case litw e sz ps =>
    rw [map_congr' h]
    congr 1
    apply propext
    constructor
    · intro hh p hp; rw [← h p hp]; exact hh p hp
    · intro hh p hp; rw [h p hp]; exact hh p hp
  case call f args => rw [map_congr' h]
  case callv x args => rw [h x (by simp), map_congr' (fun y hy => h y (by simp [hy]))]
  case bests mx x xs => rw [h x (by simp), map_congr' (fun y hy => h y (by simp [hy]))]
  all_goals simp_all
theorem ccall_congr {C : (Nat → List AV → AHeap → (AV → AHeap → Prop) → Prop)} {ρ ρ' : AX → AV} {f : CF} {args : List AX} (h : ∀ x ∈ (AOp.c f args).reads, ρ x = ρ' x) (H : AHeap) (K : AV → AHeap → Prop) : ccall C ρ f args H K = ccall C ρ' f args H K := by
  cases f with
  | fn f => simp only [ccall]; rw [map_congr' (fun y hy => h y (by simpa [AOp.reads] using hy))]
  | val x => simp only [ccall]; rw [h x (by simp [AOp.reads]), map_congr' (fun y hy => h y (by simp [AOp.reads, hy]))]
theorem looks_spec {o : AOper} {d : Option Nat} (h : noLook d o = true) : (∀ t, d = some t → ∀ x ∈ o.op.reads, AX.is t x = false) ∧ (∀ t, d = some t → o.dst ≠ some t) ∧ (∀ t u b, d = some t → o.guard = some (u, b) → u ≠ t) := by
  cases d with
  | none => exact ⟨(fun t h => by cases h), (fun t h => by cases h), (fun t u b h => by cases h)⟩
  | some t =>
    simp only [noLook, AOper.looks, Bool.and_eq_true, Bool.not_eq_true', Bool.or_eq_false_iff, bne_iff_ne, ne_eq] at h
    obtain ⟨⟨h1, h2⟩, h3⟩ := h
    refine ⟨fun t' e x hx => ?_, fun t' e => ?_, fun t' u b e hg => ?_⟩
    · obtain rfl := Option.some.inj e
      rw [List.any_eq_false] at h1
      simpa using h1 x hx
    · obtain rfl := Option.some.inj e
      exact h3
    · obtain rfl := Option.some.inj e
      rw [hg] at h2
      simpa using h2
/-- What a step that leaves memory alone answers. -/
def yld (C : (Nat → List AV → AHeap → (AV → AHeap → Prop) → Prop)) (o : AOp) (a : List AV) (H : AHeap) (y : AV) : Prop :=
  match o with
  | .q q => aq H (AX.ev a) q = some y
  | .s (.lit _ sz ps) => (∀ p ∈ ps, (AX.ev a p).flat = true ∧ (AX.ev a p).cells.length = sz) ∧ y = .imm sz (ps.map (AX.ev a))
  | .s _ => False
  | .c f args => ccall C (AX.ev a) f args H (fun y' H' => y' = y ∧ H' = H)
def Yields (C : (Nat → List AV → AHeap → (AV → AHeap → Prop) → Prop)) (o : AOper) (a : List AV) (H : AHeap) (y : AV) : Prop :=
  match o.guard with
  | none => yld C o.op a H y
  | some (t, want) => ∃ b, gdv (a.getD t .top) want = some b ∧ if b = true then yld C o.op a H y else y = .tup []
theorem astep_yields {o : AOper} {K : List AV → AHeap → Prop} (hc : o.op.cls ≤ 1) (h : astep C o a H K) : ∃ y, Yields C o a H y ∧ K (aput a o.dst y) H := by
  unfold astep at h
  unfold Yields
  split at h
  · rename_i hg
    rw [hg]
    cases ho : o.op with
    | q q =>
      rw [ho] at h
      obtain ⟨y, h1, h2⟩ := h
      exact ⟨y, h1, h2⟩
    | s s =>
      rw [ho] at h hc
      cases s <;> simp [AOp.cls] at hc
      exact ⟨_, ⟨h.1, rfl⟩, h.2⟩
    | c f args =>
      rw [ho] at h
      obtain ⟨y, h1, h2⟩ := h
      exact ⟨y, h1, h2⟩
  · rename_i t want hg
    split at h <;> (try (exact h.elim))
    rename_i b hb
    rw [hg]
    cases ho : o.op with
    | q q =>
      rw [ho] at h
      obtain ⟨h1, h2⟩ := h
      refine ⟨_, ⟨b, hb, ?_⟩, h2⟩
      cases hbw : b with
      | true =>
        obtain ⟨y, hy⟩ := Option.isSome_iff_exists.1 (h1 hbw)
        simp [yld, hy]
      | false => simp
    | s s =>
      rw [ho] at h hc
      cases s <;> simp [AOp.cls] at hc
      simp only [agop] at h
      cases hbw : b with
      | true =>
        rw [hbw, if_pos rfl] at h
        exact ⟨_, ⟨b, hb, by rw [hbw, if_pos rfl]; exact ⟨h.1, rfl⟩⟩, h.2⟩
      | false =>
        rw [hbw, if_neg (by simp)] at h
        exact ⟨_, ⟨b, hb, by rw [hbw, if_neg (by simp)]⟩, h⟩
    | c f args =>
      rw [ho] at h
      obtain ⟨y, h1, h2⟩ := h
      refine ⟨_, ⟨b, hb, ?_⟩, h2⟩
      cases hbw : b with
      | true => simpa [yld] using h1 hbw
      | false => simp
theorem yields_astep {o : AOper} {K : List AV → AHeap → Prop} {y : AV} (hc : o.op.cls ≤ 1) (hy : Yields C o a H y) (h : K (aput a o.dst y) H) : astep C o a H K := by
  unfold Yields at hy
  unfold astep
  split at hy
  · rename_i hg
    rw [hg]
    simp only
    cases ho : o.op with
    | q q => rw [ho] at hy; exact ⟨y, hy, h⟩
    | s s =>
      rw [ho] at hy hc
      cases s <;> simp [AOp.cls] at hc
      obtain ⟨h1, rfl⟩ := hy
      exact ⟨h1, h⟩
    | c f args => rw [ho] at hy; exact ⟨y, hy, h⟩
  · rename_i t want hg
    obtain ⟨b, hb, hy⟩ := hy
    rw [hg]
    simp only [hb]
    cases ho : o.op with
    | q q =>
      rw [ho] at hy
      simp only [agop]
      cases hbw : b with
      | true =>
        rw [hbw, if_pos rfl] at hy
        simp only [yld] at hy
        simpa [hy] using h
      | false =>
        rw [hbw, if_neg (by simp)] at hy
        subst hy
        simpa using h
    | s s =>
      rw [ho] at hy hc
      cases s <;> simp [AOp.cls] at hc
      simp only [agop]
      cases hbw : b with
      | true =>
        rw [hbw, if_pos rfl] at hy
        obtain ⟨h1, rfl⟩ := hy
        rw [if_pos rfl]
        exact ⟨h1, h⟩
      | false =>
        rw [hbw, if_neg (by simp)] at hy
        subst hy
        rw [if_neg (by simp)]
        exact h
    | c f args =>
      rw [ho] at hy
      simp only [agop]
      cases hbw : b with
      | true =>
        rw [hbw, if_pos rfl] at hy
        exact ⟨y, fun _ => hy, by simpa using h⟩
      | false =>
        rw [hbw, if_neg (by simp)] at hy
        subst hy
        exact ⟨.top, fun hh => by simp at hh, by simpa using h⟩
theorem getD_put {d : Option Nat} {y : AV} {t : Nat} (h : ∀ u, d = some u → t ≠ u) : (aput a d y).getD t .top = a.getD t .top := by
  cases d with
  | none => rfl
  | some u =>
    simp only [aput]
    rw [List.getD_eq_getElem?_getD, List.getD_eq_getElem?_getD, List.getElem?_set_ne (Ne.symm (h u rfl))]
/-- Another slot written, or memory of which it does nothing: it answers the same. -/
theorem yields_put {o : AOper} {d : Option Nat} {y z : AV} (hn : noLook d o = true) (hc : o.op.cls ≤ 1) : Yields C o (aput a d z) H y ↔ Yields C o a H y := by
  obtain ⟨h1, _, h3⟩ := looks_spec hn
  have hev : ∀ x ∈ o.op.reads, AX.ev (aput a d z) x = AX.ev a x := fun x hx => ev_put (fun t ht => h1 t ht x hx)
  have hy : yld C o.op (aput a d z) H y ↔ yld C o.op a H y := by
    cases ho : o.op with
    | q q => rw [ho] at hev; simp only [AOp.reads] at hev; simp only [yld]; rw [aq_congr q hev]
    | s s =>
      rw [ho] at hev hc
      cases s <;> simp [AOp.cls] at hc
      simp only [yld]
      simp only [AOp.reads, SOp.reads] at hev
      rw [map_congr' hev]
      constructor
      · rintro ⟨p, q⟩; exact ⟨fun x hx => by rw [← hev x hx]; exact p x hx, q⟩
      · rintro ⟨p, q⟩; exact ⟨fun x hx => by rw [hev x hx]; exact p x hx, q⟩
    | c f args => rw [ho] at hev; simp only [yld]; rw [ccall_congr hev]
  unfold Yields
  cases hg : o.guard with
  | none => exact hy
  | some x =>
    obtain ⟨t, want⟩ := x
    simp only
    rw [getD_put (fun u hu => h3 u t want hu hg)]
    constructor
    · rintro ⟨b, p, q⟩; exact ⟨b, p, by split at q <;> simp_all⟩
    · rintro ⟨b, p, q⟩; exact ⟨b, p, by split at q <;> simp_all⟩
theorem yields_heap {o : AOper} {H' : AHeap} {y : AV} (hc : o.op.cls = 0) : Yields C o a H y → Yields C o a H' y := by
  have hq : ∀ q : QOp, (AOp.q q).cls = 0 → aq H (AX.ev a) q = aq H' (AX.ev a) q := by
    intro q hc
    cases q <;> first | rfl | simp [AOp.cls] at hc
  have hy : yld C o.op a H y → yld C o.op a H' y := by
    cases ho : o.op with
    | q q => rw [ho] at hc; simp only [yld]; rw [hq q hc]; exact id
    | s s => rw [ho] at hc; cases s <;> simp [AOp.cls] at hc; exact id
    | c f args => rw [ho] at hc; simp [AOp.cls] at hc
  unfold Yields
  cases hg : o.guard with
  | none => exact hy
  | some x =>
    obtain ⟨t, want⟩ := x
    rintro ⟨b, p, q⟩
    exact ⟨b, p, by split at q <;> simp_all⟩
theorem yields_push {o : AOper} {x : AObj} {y : AV} (hc : o.op.isLoad = true) : Yields C o a H y → Yields C o a (H.push x) y := by
  have hl : ∀ (ag : Bool) (n : Nat) (v z : AV), aload H ag n v = some z → aload (H.push x) ag n v = some z := by
    intro ag n v z h
    unfold aload at h ⊢
    split at h
    · split at h <;> (try (cases h; done))
      rename_i e g cs hg
      rw [push_get_old _ _ _ (H.lt hg), hg]
      exact h
    · exact h
    · cases h
  have hy : yld C o.op a H y → yld C o.op a (H.push x) y := by
    cases ho : o.op with
    | q q =>
      rw [ho] at hc
      cases q <;> simp [AOp.isLoad] at hc
      simp only [yld, aq]
      exact hl _ _ _ _
    | s s => rw [ho] at hc; simp [AOp.isLoad] at hc
    | c f args => rw [ho] at hc; simp [AOp.isLoad] at hc
  unfold Yields
  cases hg : o.guard with
  | none => exact hy
  | some x =>
    obtain ⟨t, want⟩ := x
    rintro ⟨b, p, q⟩
    exact ⟨b, p, by split at q <;> simp_all⟩
/-- Calls of which more is told are told less. -/
def Mono (C : (Nat → List AV → AHeap → (AV → AHeap → Prop) → Prop)) : Prop := ∀ f args H K K', (∀ y H', K y H' → K' y H') → C f args H K → C f args H K'
theorem as_mono (hC : Mono C) {ρ : AX → AV} {s : SOp} {K K' : AV → AHeap → Prop} (hk : ∀ y H', K y H' → K' y H') (h : as_ C H ρ s K) : as_ C H ρ s K' := by
  cases s <;> simp only [as_] at h ⊢
  case alloc => exact hk _ _ h
  case box => exact ⟨h.1, hk _ _ h.2⟩
  case store => obtain ⟨H', h1, h2⟩ := h; exact ⟨H', h1, hk _ _ h2⟩
  case lit => exact ⟨h.1, hk _ _ h.2⟩
  case litw => exact ⟨h.1, hk _ _ h.2⟩
  case app => obtain ⟨y, H', h1, h2⟩ := h; exact ⟨y, H', h1, hk _ _ h2⟩
  case copy => obtain ⟨y, H', h1, h2⟩ := h; exact ⟨y, H', h1, hk _ _ h2⟩
  case mk => obtain ⟨m, h1, h2, h3⟩ := h; exact ⟨m, h1, h2, hk _ _ h3⟩
  case s2b => obtain ⟨s, h1, h2, h3⟩ := h; exact ⟨s, h1, h2, hk _ _ h3⟩
  case call => exact hC _ _ _ _ _ hk h
  case callv =>
    split at h
    · exact hC _ _ _ _ _ hk h
    · exact h
  case put => exact ⟨h.1, hk _ _ h.2⟩
  case lookup => obtain ⟨y, h1, h2⟩ := h; exact ⟨y, h1, hk _ _ h2⟩
  case mkmap => exact hk _ _ h
  case mapup => obtain ⟨H', h1, h2⟩ := h; exact ⟨H', h1, hk _ _ h2⟩
  case mlen => obtain ⟨y, h1, h2⟩ := h; exact ⟨y, h1, hk _ _ h2⟩
  case bests => obtain ⟨y, h1, h2⟩ := h; exact ⟨y, h1, hk _ _ h2⟩
  case slice3 => obtain ⟨y, h1, h2⟩ := h; exact ⟨y, h1, hk _ _ h2⟩
theorem aop_mono (hC : Mono C) {o : AOp} {K K' : AV → AHeap → Prop} (hk : ∀ y H', K y H' → K' y H') (h : aop C o a H K) : aop C o a H K' := by
  cases o with
  | q q => obtain ⟨y, h1, h2⟩ := h; exact ⟨y, h1, hk _ _ h2⟩
  | s s => exact as_mono hC hk h
  | c f args => obtain ⟨y, h1, h2⟩ := h; exact ⟨y, h1, hk _ _ h2⟩
theorem agop_mono (hC : Mono C) {o : AOp} {b : Bool} {K K' : AV → AHeap → Prop} (hk : ∀ y H', K y H' → K' y H') (h : agop C o b a H K) : agop C o b a H K' := by
  cases o with
  | q q => exact ⟨h.1, hk _ _ h.2⟩
  | s s =>
    simp only [agop] at h ⊢
    split at h
    · rename_i hb; rw [if_pos hb]; exact as_mono hC hk h
    · rename_i hb; rw [if_neg hb]; exact hk _ _ h
  | c f args => obtain ⟨y, h1, h2⟩ := h; exact ⟨y, h1, hk _ _ h2⟩
theorem astep_mono (hC : Mono C) {o : AOper} {K K' : List AV → AHeap → Prop} (hk : ∀ a' H', K a' H' → K' a' H') (h : astep C o a H K) : astep C o a H K' := by
  unfold astep at h ⊢
  split at h
  · exact aop_mono hC (fun y H' q => hk _ _ q) h
  · split at h <;> (try (exact h.elim))
    exact agop_mono hC (fun y H' q => hk _ _ q) h
/-- Step oj, apart from oi: whether oi's answer is there already makes no difference to it; and it makes none to oi. -/
theorem step_put (hC : Mono C) {oi oj : AOper} {y : AV} {K : List AV → AHeap → Prop} (hp : pairOk oi oj = true) (hi : oi.op.cls ≤ 1) (hy : Yields C oi a H y) (h : astep C oj (aput a oi.dst y) H K) :
    astep C oj a H (fun a' H' => Yields C oi a' H' y ∧ K (aput a' oi.dst y) H') := by
  simp only [pairOk, Bool.and_eq_true] at hp
  obtain ⟨⟨p1, p2⟩, p3⟩ := hp
  obtain ⟨l1, l2, l3⟩ := looks_spec p1
  have hcomm : ∀ z, aput (aput a oi.dst y) oj.dst z = aput (aput a oj.dst z) oi.dst y := fun z => put_comm (fun t ht => l2 t ht)
  by_cases hj : oj.op.cls ≤ 1
  · obtain ⟨z, h1, h2⟩ := astep_yields hj h
    rw [yields_put p1 hj] at h1
    refine yields_astep hj h1 ⟨(yields_put p2 hi).2 hy, ?_⟩
    rw [← hcomm]
    exact h2
  · have hev : ∀ x ∈ oj.op.reads, AX.ev (aput a oi.dst y) x = AX.ev a x := fun x hx => ev_put (fun t ht => l1 t ht x hx)
    cases ho : oj.op with
    | q q => rw [ho] at hj; cases q <;> simp [AOp.cls] at hj
    | c f args => rw [ho] at hj; simp [AOp.cls] at hj
    | s s =>
      rw [ho] at hev
      simp only [AOp.reads] at hev
      have hsame : ∀ H', (oi.op.cls = 0 ∨ H' = H ∨ (oi.op.isLoad = true ∧ ∃ x, H' = H.push x)) → ∀ z, Yields C oi (aput a oj.dst z) H' y := by
        intro H' hh z
        rw [yields_put p2 hi]
        rcases hh with hh | rfl | ⟨hh, x, rfl⟩
        · exact yields_heap hh hy
        · exact hy
        · exact yields_push hh hy
      have key : ∀ K' : AV → AHeap → Prop, as_ C H (AX.ev a) s K' → (∀ z H', K' z H' → K (aput (aput a oi.dst y) oj.dst z) H') → as_ C H (AX.ev a) s fun z H' => Yields C oi (aput a oj.dst z) H' y ∧ K (aput (aput a oj.dst z) oi.dst y) H' := by
        intro K' hk' hkk
        simp only [Bool.or_eq_true, beq_iff_eq, decide_eq_true_eq, Bool.and_eq_true] at p3
        rcases p3 with (p3 | p3) | ⟨p3, p4⟩
        · exact as_mono hC (fun z H' q => ⟨hsame H' (.inl p3) z, by rw [← hcomm]; exact hkk z H' q⟩) hk'
        · exact absurd p3 hj
        · rw [ho] at p4
          cases s <;> simp [AOp.cls] at p4
          simp only [as_] at hk' ⊢
          exact ⟨hsame _ (.inr (.inr ⟨p3, _, rfl⟩)) _, by rw [← hcomm]; exact hkk _ _ hk'⟩
      unfold astep at h ⊢
      rw [ho] at h ⊢
      cases hg : oj.guard with
      | none =>
        rw [hg] at h
        (try simp only at h ⊢)
        simp only [aop] at h ⊢
        rw [as_congr s hev] at h
        exact key _ h (fun z H' q => q)
      | some x =>
        obtain ⟨t, want⟩ := x
        rw [hg] at h
        (try simp only at h ⊢)
        rw [getD_put (fun u hu => l3 u t want hu hg)] at h
        split at h <;> (try (exact h.elim))
        rename_i b hb
        (try simp only [hb])
        simp only [agop] at h ⊢
        split at h
        · rename_i hbw
          rw [if_pos hbw]
          rw [as_congr s hev] at h
          exact key _ h (fun z H' q => q)
        · rename_i hbw
          rw [if_neg hbw]
          exact ⟨hsame _ (.inr (.inl rfl)) _, by rw [← hcomm]; exact h⟩
theorem yields_K {o : AOper} {K K' : List AV → AHeap → Prop} (hC : Mono C) (h : astep C o a H K) (hk : ∀ a' H', K a' H' → K' a' H') : astep C o a H K' := astep_mono hC hk h
def stepAt (C : (Nat → List AV → AHeap → (AV → AHeap → Prop) → Prop)) (al : List AOper) (i : Nat) (K : List AV → AHeap → Prop) (a : List AV) (H : AHeap) : Prop :=
  match al[i]? with
  | none => K a H
  | some o => astep C o a H K
/-- Whatever order is drawn from here on. -/
def aAny (C : (Nat → List AV → AHeap → (AV → AHeap → Prop) → Prop)) (ops : Array Oper) (al : List AOper) (Q : List AV → AHeap → Prop) : Nat → Array Bool → List AV → AHeap → Prop
  | 0, listed, a, H => Region.ready .any ops listed = [] ∧ Q a H
  | fuel + 1, listed, a, H => (Region.ready .any ops listed = [] → Q a H) ∧ ∀ i ∈ Region.ready .any ops listed, stepAt C al i (aAny C ops al Q fuel (listed.setIfInBounds i true)) a H
theorem stepAt_mono (hC : Mono C) {al : List AOper} {i : Nat} {K K' : List AV → AHeap → Prop} (hk : ∀ a' H', K a' H' → K' a' H') (h : stepAt C al i K a H) : stepAt C al i K' a H := by
  unfold stepAt at h ⊢
  split
  · rename_i ho; rw [ho] at h; exact hk _ _ h
  · rename_i o ho; rw [ho] at h; exact astep_mono hC hk h
/-- Who waits for i, by itself. -/
def waitsFor (ops : Array Oper) (j i : Nat) : Bool := match ops[j]? with
  | some o => o.after.any fun e => Region.binds .any e && e.on == i
  | none => false
theorem aAny_first (hC : Mono C) {ops : Array Oper} {al : List AOper} {Q : List AV → AHeap → Prop} (hl : ops.size = al.length) {i : Nat} {oi : AOper} {y : AV} (hi : al[i]? = some oi) (hc : oi.op.cls ≤ 1) (dep : Nat → Bool) (hw : ∀ j, dep j = true → waitsFor ops j i = true ∨ ∃ k, dep k = true ∧ waitsFor ops j k = true) :
    ∀ (fuel : Nat) (listed : Array Bool) (a : List AV) (H : AHeap), (∀ j, dep j = true → listed[j]? = some false) → (∀ j oj, al[j]? = some oj → j ≠ i → listed.getD j true = false → dep j = false → pairOk oi oj = true) →
      i ∈ Region.ready .any ops listed → Yields C oi a H y → aAny C ops al Q fuel (listed.setIfInBounds i true) (aput a oi.dst y) H → aAny C ops al Q (fuel + 1) listed a H := by
  intro fuel
  induction fuel with
  | zero =>
    intro listed a H _ _ hr hy h
    refine ⟨fun hh => (by rw [hh] at hr; cases hr), fun j hj => ?_⟩
    by_cases hji : j = i
    · subst hji
      unfold stepAt
      rw [hi]
      exact yields_astep hc hy h
    · have := ready_mono hj hji
      rw [h.1] at this
      cases this
  | succ fuel ih =>
    intro listed a H hun0 hfree hr hy h
    refine ⟨fun hh => (by rw [hh] at hr; cases hr), fun j hj => ?_⟩
    by_cases hji : j = i
    · subst hji
      unfold stepAt
      rw [hi]
      exact yields_astep hc hy h
    · have h1 := h.2 j (ready_mono hj hji)
      obtain ⟨hjun, oj, hoj, hall⟩ := mem_ready.1 hj
      have hjl : j < al.length := by rw [← hl]; exact (Array.getElem?_eq_some_iff.1 hoj).1
      have hjal : al[j]? = some al[j] := List.getElem?_eq_getElem hjl
      have hlist : ∀ k, waitsFor ops j k = true → listed[k]? ≠ some false := by
        intro k hk h0
        unfold waitsFor at hk
        rw [hoj] at hk
        simp only at hk
        obtain ⟨m, hm, hmm⟩ := Array.any_eq_true.1 hk
        simp only [Bool.and_eq_true, beq_iff_eq] at hmm
        have h2 := hall _ (Array.getElem_mem hm) hmm.1
        rw [hmm.2] at h2
        rw [Array.getD_eq_getD_getElem?, h0] at h2
        cases h2
      have hi0 : listed[i]? = some false := by
        have h0 := (mem_ready.1 hr).1
        rcases Nat.lt_or_ge i listed.size with h' | h'
        · simp [h'] at h0 ⊢
          exact h0
        · simp [Array.getElem?_eq_none h'] at h0
      have hnot : dep j = false := by
        cases hd : dep j with
        | false => rfl
        | true =>
          rcases hw j hd with h3 | ⟨k, hk, h3⟩
          · exact absurd hi0 (hlist i h3)
          · exact absurd (hun0 k hk) (hlist k h3)
      have hp := hfree j al[j] hjal hji hjun hnot
      unfold stepAt at h1 ⊢
      rw [hjal] at h1 ⊢
      refine astep_mono hC (fun a' H' hh => ?_) (step_put hC hp hc hy h1)
      refine ih (listed.setIfInBounds j true) a' H' (fun k hk => ?_) (fun k ok hk hki hun hno => ?_) (ready_mono hr (Ne.symm hji)) hh.1 ?_
      · have hjk : j ≠ k := by rintro rfl; rw [hk] at hnot; cases hnot
        rw [Array.getElem?_setIfInBounds_ne hjk]
        exact hun0 k hk
      · refine hfree k ok hk hki ?_ hno
        by_cases hjk : j = k
        · subst hjk; exact hjun
        · rw [getD_set_ne true hjk] at hun; exact hun
      · rw [Array.setIfInBounds_comm _ _ hji]
        exact hh.2
/-- Who waits for i, by itself or through others (one pass). -/
def deps (ops : Array Oper) (listed : Array Bool) (i : Nat) : List Nat := (List.range ops.size).foldl (fun D j => if listed[j]? == some false && (waitsFor ops j i || D.any (waitsFor ops j)) then j :: D else D) []
def depsOk (ops : Array Oper) (al : List AOper) (oi : AOper) (listed : Array Bool) (i : Nat) (D : List Nat) : Bool :=
  (D.all fun j => listed[j]? == some false && (waitsFor ops j i || D.any (waitsFor ops j))) && (List.range al.length).all fun j => j == i || listed.getD j true || D.contains j || (match al[j]? with | some oj => pairOk oi oj | none => true)
/-- An order that serves for all: each step is ready; if it leaves memory alone, all that don't wait for it may go ahead of it; else it is the only one that's ready. -/
def planOk (ops : Array Oper) (al : List AOper) : Array Bool → List Nat → Bool
  | listed, [] => (Region.ready .any ops listed).isEmpty
  | listed, i :: σ => match al[i]? with
    | some oi => (Region.ready .any ops listed).contains i && (if oi.op.cls ≤ 1 then ((List.range al.length).all fun j => j == i || listed.getD j true || waitsFor ops j i || (match al[j]? with | some oj => pairOk oi oj | none => true)) || depsOk ops al oi listed i (deps ops listed i)
      else Region.ready .any ops listed == [i]) && planOk ops al (listed.setIfInBounds i true) σ
    | none => false
def pick_ (al : List AOper) (σ : List Nat) : List AOper := σ.filterMap fun i => al[i]?
theorem plan_sound (hC : Mono C) {ops : Array Oper} {al : List AOper} {Q : List AV → AHeap → Prop} (hl : ops.size = al.length) : ∀ (σ : List Nat) (listed : Array Bool) (a : List AV) (H : AHeap), planOk ops al listed σ = true → aops C (pick_ al σ) a H Q → aAny C ops al Q σ.length listed a H
  | [], listed, a, H, hp, h => ⟨by simpa [planOk] using hp, h⟩
  | i :: σ, listed, a, H, hp, h => by
    simp only [planOk] at hp
    split at hp <;> (try (cases hp; done))
    rename_i oi hoi
    simp only [Bool.and_eq_true] at hp
    obtain ⟨⟨p1, p2⟩, p3⟩ := hp
    have hr : i ∈ Region.ready .any ops listed := by simpa using p1
    have hpk : pick_ al (i :: σ) = oi :: pick_ al σ := by simp [pick_, hoi]
    rw [hpk] at h
    simp only [aops] at h
    by_cases hc : oi.op.cls ≤ 1
    · rw [if_pos hc] at p2
      obtain ⟨y, h1, h2⟩ := astep_yields hc h
      rcases (Bool.or_eq_true _ _).mp p2 with p2 | p2
      · refine aAny_first hC hl hoi hc (fun j => (listed[j]? == some false) && waitsFor ops j i) (fun j hj => .inl (by simp only [Bool.and_eq_true] at hj; exact hj.2)) σ.length listed a H (fun j hj => by simp only [Bool.and_eq_true, beq_iff_eq] at hj; exact hj.1) (fun j oj hj hji hun hno => ?_) hr h1 (plan_sound hC hl σ _ _ _ p3 h2)
        rw [List.all_eq_true] at p2
        have hjl : j < al.length := (List.getElem?_eq_some_iff.1 hj).1
        have h3 := p2 j (List.mem_range.2 hjl)
        have hno2 : waitsFor ops j i = false := by
          have hl0 : listed[j]? = some false := by
            rcases Nat.lt_or_ge j listed.size with h' | h'
            · simp [Array.getD_eq_getD_getElem?, h'] at hun ⊢
              exact hun
            · simp [Array.getD_eq_getD_getElem?, Array.getElem?_eq_none h'] at hun
          simp only [hl0, beq_self_eq_true, Bool.true_and] at hno
          exact hno
        rw [hj, hno2, hun] at h3
        simpa [hji] using h3
      · generalize deps ops listed i = D at p2
        simp only [depsOk, Bool.and_eq_true, List.all_eq_true] at p2
        obtain ⟨p4, p5⟩ := p2
        refine aAny_first hC hl hoi hc (fun j => D.contains j) (fun j hj => ?_) σ.length listed a H (fun j hj => ?_) (fun j oj hj hji hun hno => ?_) hr h1 (plan_sound hC hl σ _ _ _ p3 h2)
        · have h3 := (p4 j (by simpa using hj)).2
          rcases (Bool.or_eq_true _ _).mp h3 with h3 | h3
          · exact .inl h3
          · obtain ⟨k, hk, hkk⟩ := List.any_eq_true.1 h3
            exact .inr ⟨k, by simpa using hk, hkk⟩
        · have h3 := (p4 j (by simpa using hj)).1
          simpa using h3
        · have hjl : j < al.length := (List.getElem?_eq_some_iff.1 hj).1
          have h3 := p5 j (List.mem_range.2 hjl)
          have hno2 : D.contains j = false := hno
          rw [hj, hno2, hun] at h3
          simpa [hji] using h3
    · rw [if_neg hc] at p2
      have hone : Region.ready .any ops listed = [i] := by simpa using p2
      refine ⟨fun hh => (by rw [hh] at hone; cases hone), fun j hj => ?_⟩
      rw [hone] at hj
      obtain rfl : j = i := by simpa using hj
      unfold stepAt
      rw [hoi]
      exact astep_mono hC (fun a' H' hh => plan_sound hC hl σ _ a' H' p3 hh) h
end
section
variable {P : Program} {g : Ghost} {w : World} {H : AHeap} {act : Act} {a : List AV}
theorem calls_mono : Mono (ACalls P) := fun f args H K K' hk h => h.mono hk
/-- Some calls told as ones that leave memory alone; some reads told as ones of cells that nobody writes to. -/
def turnC (o : AOper) : AOper := match o.op with
  | .s (.call f args) => { o with op := .c (.fn f) args }
  | .s (.callv x args) => { o with op := .c (.val x) args }
  | .q (.load ag n x) => { o with op := .q (.loadr ag n x) }
  | _ => o
theorem agop_true {C : (Nat → List AV → AHeap → (AV → AHeap → Prop) → Prop)} {p : AOp} {K : AV → AHeap → Prop} : agop C p true a H K ↔ aop C p a H K := by
  cases p with
  | q q =>
    simp only [agop, aop, if_true, forall_const, true_implies]
    constructor
    · rintro ⟨h1, h2⟩
      obtain ⟨y, hy⟩ := Option.isSome_iff_exists.1 h1
      rw [hy] at h2
      exact ⟨y, hy, h2⟩
    · rintro ⟨y, hy, h2⟩
      rw [hy]
      exact ⟨rfl, h2⟩
  | s s => simp [agop, aop]
  | c f args => simp [agop, aop]
theorem agop_false {C : (Nat → List AV → AHeap → (AV → AHeap → Prop) → Prop)} {p : AOp} {K : AV → AHeap → Prop} : agop C p false a H K ↔ K (.tup []) H := by
  cases p with
  | q q => simp [agop]
  | s s => simp [agop]
  | c f args => simp [agop]
theorem turn_op {C : (Nat → List AV → AHeap → (AV → AHeap → Prop) → Prop)} {p p' : AOp} {o : AOper} {K : List AV → AHeap → Prop} (hp : o.op = p) (hw : ∀ (a : List AV) (H : AHeap) (K : AV → AHeap → Prop), aop C p' a H K → aop C p a H K) (h : astep C { o with op := p' } a H K) : astep C o a H K := by
  unfold astep at h ⊢
  simp only at h
  subst hp
  cases hg : o.guard with
  | none =>
    rw [hg] at h
    exact hw _ _ _ h
  | some x =>
    obtain ⟨t, want⟩ := x
    rw [hg] at h
    (try simp only at h ⊢)
    split at h <;> (try (exact h.elim))
    rename_i b hb
    (try simp only [hb])
    cases b with
    | true => exact agop_true.2 (hw _ _ _ (agop_true.1 h))
    | false => exact agop_false.2 (agop_false.1 h)
theorem turn_step {C : (Nat → List AV → AHeap → (AV → AHeap → Prop) → Prop)} (hC : Mono C) {o : AOper} {K : List AV → AHeap → Prop} (h : astep C (turnC o) a H K) : astep C o a H K := by
  unfold turnC at h
  split at h
  · rename_i f args ho
    refine turn_op ho (fun a H K h => ?_) h
    obtain ⟨y, h1, h2⟩ := h
    exact hC _ _ _ _ _ (fun y' H' ⟨e1, e2⟩ => by rw [e1, e2]; exact h2) h1
  · rename_i x args ho
    refine turn_op ho (fun a H K h => ?_) h
    obtain ⟨y, h1, h2⟩ := h
    show as_ C H (AX.ev a) (.callv x args) K
    simp only [as_]
    simp only [ccall] at h1
    split at h1 <;> (try (exact h1.elim))
    rename_i hv
    rw [hv]
    exact hC _ _ _ _ _ (fun y' H' ⟨e1, e2⟩ => by rw [e1, e2]; exact h2) h1
  · rename_i ag n x ho
    refine turn_op ho (fun a H K h => ?_) h
    obtain ⟨y, h1, h2⟩ := h
    refine ⟨y, ?_, h2⟩
    simp only [aq, aloadr] at h1
    split at h1 <;> (try (cases h1; done))
    rename_i ys hy
    simp only [aq, hy, aload]
    exact h1
  · exact h
theorem Sim.heap {w' : World} (hS : Sim g w H) (h : w'.heap = w.heap) (h1 : w'.os = w.os) (h2 : w'.tape = w.tape) (h3 : w'.output = w.output) : Ext g w g w' ∧ Sim g w' H := by
  have hE : Ext g w g w' := ⟨fun _ _ _ q => q, fun _ q => q, fun b _ => by rw [h], fun b s q => by unfold World.shape? at q ⊢; rw [h]; exact q, by rw [h]; exact Nat.le_refl _, h1, h2, h3, fun _ _ q => q, fun b _ _ => by rw [h]⟩
  exact ⟨hE, ⟨fun b hb => by rw [h]; exact hS.zlt b hb, fun i k b hb => by rw [h]; exact hS.mlt i k b hb, fun i o ho => (hS.live i o ho).ext hE (fun b _ => by rw [h]), hS.inj, hS.nz, hS.gen⟩⟩
theorem aAny_sound {W : List Nat} {ops : Array Oper} {al : List AOper} {Q : List AV → AHeap → Prop} {Qc : Exit → Act → World → Prop} (hal : ∀ (i : Nat) (o : Oper), ops[i]? = some o → ∃ ao ao', al[i]? = some ao' ∧ trOper P W ops o = some ao ∧ (ao' = ao ∨ ao' = turnC ao)) :
    ∀ (fuel : Nat) (listed : Array Bool) (g : Ghost) (w : World) (H : AHeap) (act : Act) (a : List AV), Sim g w H → RepAct g w act a → aAny (ACalls P) ops al Q fuel listed a H →
      (∀ a' H' g' w' act', Q a' H' → Ext g w g' w' → Sim g' w' H' → RepAct g' w' act' a' → Qc .normal act' w') → wpAny P .any ops Qc fuel listed act w
  | 0, listed, g, w, H, act, a, hS, hR, h, hn => ⟨h.1, hn a H g w act h.2 (Ext.refl _ _) hS hR⟩
  | fuel + 1, listed, g, w, H, act, a, hS, hR, h, hn => by
    refine ⟨fun hh => hn a H g w act (h.1 hh) (Ext.refl _ _) hS hR, fun i hi => ?_⟩
    have h1 := h.2 i hi
    obtain ⟨_, o, ho, _⟩ := mem_ready.1 hi
    obtain ⟨ao, ao', hao, htr, hturn⟩ := hal i o ho
    unfold stepAt at h1
    rw [hao] at h1
    unfold wpOp
    rw [ho]
    have h2 : astep (ACalls P) ao a H (aAny (ACalls P) ops al Q fuel (listed.setIfInBounds i true)) := by
      rcases hturn with rfl | rfl
      · exact h1
      · exact turn_step calls_mono h1
    exact astep_sound htr hS hR h2 (fun a' H' g' w' act' q hE hS' hR' _ => aAny_sound hal fuel _ g' w' H' act' a' hS' hR' q (fun a2 H2 g2 w2 act2 q2 hE2 => hn a2 H2 g2 w2 act2 q2 (hE.trans hE2)))
/-- Those that an operation waits for, one behind the other. -/
def ahead (ops : Array Oper) (i : Nat) : List Nat := ((List.range i).reverse).foldl (fun D j => if D.any (fun d => waitsFor ops d j) then j :: D else D) [i]
/-- Whether two operations of a region are without order, and the other one is of a kind. -/
def beside (ops : Array Oper) (al : List AOper) (i : Nat) (kind : AOp → Bool) : Bool := (List.range al.length).any fun j => j != i && (match al[j]? with | some q => kind q.op | none => false) && !(ahead ops i).contains j && !(ahead ops j).contains i
def AOp.isCall : AOp → Bool
  | .s (.call _ _) | .s (.callv _ _) | .c _ _ => true
  | _ => false
/-- Which calls are told as ones that leave memory alone: such as stand beside a read without order; which reads as ones of cells that nobody writes to: such as stand beside a write without order. -/
def turnAll (ops : Array Oper) (al : List AOper) : List AOper := (List.range al.length).map fun i =>
  let o := (al[i]?).getD ⟨none, .q (.num 0), none⟩
  if (o.op.isCall && beside ops al i (fun q => q.cls == 1 || q.isCall)) || (o.op.isLoad && beside ops al i (fun q => q.cls == 3 && !q.isCall)) then turnC o else o
def planGo (ops : Array Oper) (al : List AOper) : Nat → Array Bool → List Nat
  | 0, _ => []
  | fuel + 1, listed =>
    let r := Region.ready .any ops listed
    match r.find? fun i => match al[i]? with | some o => o.op.cls ≤ 1 | none => false with
    | some i => i :: planGo ops al fuel (listed.setIfInBounds i true)
    | none => match r with
      | i :: _ => i :: planGo ops al fuel (listed.setIfInBounds i true)
      | [] => []
def trDraw (P : Program) (W : List Nat) (ops : Array Oper) : Option (List AOper) :=
  match trOpers P W ops ops.toList with
  | some al0 =>
    let al := turnAll ops al0
    let σ := planGo ops al ops.size (Array.replicate ops.size false)
    if al.length = al0.length ∧ σ.length = ops.size ∧ planOk ops al (Array.replicate ops.size false) σ = true then some (pick_ al σ) else none
  | none => none
theorem turnAll_get (ops : Array Oper) (al : List AOper) (i : Nat) (o : AOper) (h : al[i]? = some o) : ∃ o', (turnAll ops al)[i]? = some o' ∧ (o' = o ∨ o' = turnC o) := by
  have hlt : i < al.length := (List.getElem?_eq_some_iff.1 h).1
  unfold turnAll
  rw [List.getElem?_map, List.getElem?_range hlt]
  simp only [Option.map_some, h, Option.getD_some]
  split
  · exact ⟨_, rfl, .inr rfl⟩
  · exact ⟨_, rfl, .inl rfl⟩
theorem draw_sound {W : List Nat} {ops : Array Oper} {al : List AOper} {id : Nat} {Q : List AV → AHeap → Prop} {Qc : Exit → Act → World → Prop} (hm : P.follows .mixedOrders = true) (h : trDraw P W ops = some al) (hS : Sim g w H) (hR : RepAct g w act a) (hk : aops (ACalls P) al a H Q)
    (hn : ∀ a' H' g' w' act', Q a' H' → Ext g w g' w' → Sim g' w' H' → RepAct g' w' act' a' → Qc .normal act' w') : (Code.region id ops true).wp P Qc act w := by
  unfold trDraw at h
  split at h <;> (try (cases h; done))
  rename_i al0 h0
  simp only at h
  split at h <;> (try (cases h; done))
  rename_i hc
  obtain ⟨c1, c2, c3⟩ := hc
  obtain rfl := Option.some.inj h
  obtain ⟨hl, hget⟩ := trOpers_get _ _ h0
  have hsz : ops.size = (turnAll ops al0).length := by rw [c1, ← hl]; simp
  obtain ⟨hE, hS'⟩ := hS.heap (w' := { w with drawn := w.drawn + 1 }) rfl rfl rfl rfl
  have h1 := plan_sound (calls_mono (P := P)) hsz _ _ a H c3 hk
  rw [c2] at h1
  refine wp_region_any hm (aAny_sound (W := W) (fun i o ho => ?_) ops.size _ g _ H act a hS' (hR.ext hE) h1 (fun a2 H2 g2 w2 act2 q2 hE2 => hn a2 H2 g2 w2 act2 q2 (hE.trans hE2)))
  obtain ⟨ao, hao, htr⟩ := hget i o (by simpa using ho)
  obtain ⟨ao', h2, h3⟩ := turnAll_get ops al0 i ao hao
  exact ⟨ao, ao', h2, htr, h3⟩
end
end Go.Proofs.Ytblflecalomgfaa.AL
