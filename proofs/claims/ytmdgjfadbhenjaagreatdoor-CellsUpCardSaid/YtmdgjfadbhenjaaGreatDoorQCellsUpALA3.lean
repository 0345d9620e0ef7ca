/- Texts gathered into one. -/
import Derived.Test.YtmdgjfadbhenjaaGreatDoorQCellsUpALA2
import Derived.Orders
/- Regions whose order is open: told in one order, whatever order is drawn. -/
set_option linter.unusedVariables false
set_option linter.unusedSimpArgs false
namespace Go.Proofs.YtmdgjfadbhenjaaGreatDoor.AL
open Go
def QOp.reads : QOp → List AX
  | .move x | .un _ x | .conv _ x | .same x | .b2s x | .load _ _ x | .loadr _ _ x | .field _ _ _ x | .fieldAddr _ x | .extract _ x | .len _ x | .iface _ x | .nonil x | .cap x => [x]
  | .pick c x y => [c, x, y]
  | .bin _ x y | .beq _ x y | .nil _ _ x y | .seq _ _ x y | .idxSl _ x y | .idxPt _ _ x y | .idxStr x y | .idxArr _ _ _ x y | .best _ x y => [x, y]
  | .build _ ps => ps.map (·.2.2)
  | .num _ => []
  | .mkFunc _ fs cs => fs ++ cs
  | .sliceStr x lo hi | .sliceSl _ x lo hi | .sliceArr _ _ x lo hi => x :: (lo.toList ++ hi.toList)
def SOp.reads : SOp → List AX
  | .alloc _ _ => []
  | .box _ x | .s2b _ x | .put _ _ x => [x]
  | .mk _ _ _ _ n => [n]
  | .store _ x v => [x, v]
  | .lit _ _ ps | .litw _ _ ps | .litc _ _ ps => ps
  | .app _ _ _ s x | .copy _ s x => [s, x]
  | .call _ args => args
  | .callv x args => x :: args
  | .stop | .mkmap => []
  | .lookup _ _ _ m k => [m, k]
  | .mapup _ m k v => [m, k, v]
  | .mlen m => [m]
  | .bests _ x xs => x :: xs
  | .slice3 _ x hi mx => [x, hi, mx]
  | .slice3l _ x lo hi mx => [x, lo, hi, mx]
  | .appz _ _ _ _ s n => [s, n]
  | .clear _ _ x | .range x | .next x => [x]
def AOp.reads : AOp → List AX
  | .q x => x.reads
  | .s x => x.reads
  | .c (.fn _) args => args
  | .c (.val x) args => x :: args
def AX.is (t : Nat) : AX → Bool
  | .tmp u => u == t
  | .const _ => false
def AOper.looks (o : AOper) (t : Nat) : Bool := o.op.reads.any (AX.is t) || (match o.guard with | some (u, _) => u == t | none => false)
/-- What it does with memory: 0: nothing; 1: it reads; 2: it makes a variable; 3: else. -/
def AOp.cls : AOp → Nat
  | .q (.load _ _ _) | .q (.b2s _) | .q (.sliceArr _ _ _ _ _) | .c _ _ => 1
  | .q _ => 0
  | .s (.lit _ _ _) => 0
  | .s (.alloc _ _) => 2
  | .s _ => 3
def AOp.isLoad : AOp → Bool
  | .q (.load _ _ _) => true
  | _ => false
def noLook (d : Option Nat) (o : AOper) : Bool := match d with
  | some t => !o.looks t && o.dst != some t
  | none => true
def pairOk (x y : AOper) : Bool := noLook x.dst y && noLook y.dst x && (x.op.cls == 0 || y.op.cls ≤ 1 || (x.op.isLoad && y.op.cls == 2))
section
variable {P : Program} {C : (Nat → List AV → AHeap → (AV → AHeap → Prop) → Prop)} {H : AHeap} {a : List AV}
theorem ev_put {d : Option Nat} {y : AV} {x : AX} (h : ∀ t, d = some t → AX.is t x = false) : AX.ev (aput a d y) x = AX.ev a x := by
  cases d with
  | none => rfl
  | some t =>
    cases x with
    | const v => rfl
    | tmp u =>
      have := h t rfl
      simp only [AX.is, beq_eq_false_iff_ne, ne_eq] at this
      simp only [AX.ev, aput]
      rw [List.getD_eq_getElem?_getD, List.getD_eq_getElem?_getD, List.getElem?_set_ne (Ne.symm this)]
theorem put_comm {d e : Option Nat} {y z : AV} (h : ∀ t, d = some t → e ≠ some t) : aput (aput a d y) e z = aput (aput a e z) d y := by
  cases d with
  | none => rfl
  | some t =>
    cases e with
    | none => rfl
    | some u => exact List.set_comm _ _ (fun hh => h t rfl (by rw [hh]))
theorem map_congr' {ρ ρ' : AX → AV} {l : List AX} (h : ∀ x ∈ l, ρ x = ρ' x) : l.map ρ = l.map ρ' := List.map_congr_left h
theorem aq_congr {ρ ρ' : AX → AV} (q : QOp) (h : ∀ x ∈ q.reads, ρ x = ρ' x) : aq H ρ q = aq H ρ' q := by
  cases q <;> simp only [QOp.reads] at h <;> simp only [aq]
  case build z ps =>
    congr 2
    apply List.map_congr_left
    intro p hp
    rw [h p.2.2 (List.mem_map.2 ⟨p, hp, rfl⟩)]
  case mkFunc fn fs cs => rw [map_congr' (fun x hx => h x (by simp [hx])), map_congr' (l := cs) (fun x hx => h x (by simp [hx]))]
  case sliceStr x lo hi =>
    rw [h x (by simp)]
    cases lo <;> cases hi <;> simp_all
  case sliceArr sz n x lo hi =>
    rw [h x (by simp)]
    cases lo <;> cases hi <;> simp_all
  case sliceSl sz x lo hi =>
    rw [h x (by simp)]
    cases lo <;> cases hi <;> simp_all
  all_goals simp_all
theorem as_congr {ρ ρ' : AX → AV} (s : SOp) (h : ∀ x ∈ s.reads, ρ x = ρ' x) (K : AV → AHeap → Prop) : as_ C H ρ s K = as_ C H ρ' s K := by
  cases s <;> simp only [SOp.reads] at h <;> simp only [as_]
  case lit e sz ps =>
    rw [map_congr' h]
    congr 1
    apply propext
    constructor
    · intro hh p hp; rw [← h p hp]; exact hh p hp
    · intro hh p hp; rw [h p hp]; exact hh p hp
  case litw e sz ps =>
    rw [map_congr' h]
    congr 1
    apply propext
    constructor
    · intro hh p hp; rw [← h p hp]; exact hh p hp
    · intro hh p hp; rw [h p hp]; exact hh p hp
  case litc e sz ps =>
    rw [map_congr' h]
    congr 1
    apply propext
    constructor
    · intro hh p hp; rw [← h p hp]; exact hh p hp
    · intro hh p hp; rw [h p hp]; exact hh p hp
  case call f args => rw [map_congr' h]
  case callv x args => rw [h x (by simp), map_congr' (fun y hy => h y (by simp [hy]))]
  case bests mx x xs => rw [h x (by simp), map_congr' (fun y hy => h y (by simp [hy]))]
  all_goals simp_all
theorem ccall_congr {C : (Nat → List AV → AHeap → (AV → AHeap → Prop) → Prop)} {ρ ρ' : AX → AV} {f : CF} {args : List AX} (h : ∀ x ∈ (AOp.c f args).reads, ρ x = ρ' x) (H : AHeap) (K : AV → AHeap → Prop) : ccall C ρ f args H K = ccall C ρ' f args H K := by
  cases f with
  | fn f => simp only [ccall]; rw [map_congr' (fun y hy => h y (by simpa [AOp.reads] using hy))]
  | val x => simp only [ccall]; rw [h x (by simp [AOp.reads]), map_congr' (fun y hy => h y (by simp [AOp.reads, hy]))]
theorem looks_spec {o : AOper} {d : Option Nat} (h : noLook d o = true) : (∀ t, d = some t → ∀ x ∈ o.op.reads, AX.is t x = false) ∧ (∀ t, d = some t → o.dst ≠ some t) ∧ (∀ t u b, d = some t → o.guard = some (u, b) → u ≠ t) := by
  cases d with
  | none => exact ⟨(fun t h => by cases h), (fun t h => by cases h), (fun t u b h => by cases h)⟩
  | some t =>
    simp only [noLook, AOper.looks, Bool.and_eq_true, Bool.not_eq_true', Bool.or_eq_false_iff, bne_iff_ne, ne_eq] at h
    obtain ⟨⟨h1, h2⟩, h3⟩ := h
    refine ⟨fun t' e x hx => ?_, fun t' e => ?_, fun t' u b e hg => ?_⟩
    · obtain rfl := Option.some.inj e
      rw [List.any_eq_false] at h1
      simpa using h1 x hx
    · obtain rfl := Option.some.inj e
      exact h3
    · obtain rfl := Option.some.inj e
      rw [hg] at h2
      simpa using h2
/-- What a step that leaves memory alone answers. -/
def yld (C : (Nat → List AV → AHeap → (AV → AHeap → Prop) → Prop)) (o : AOp) (a : List AV) (H : AHeap) (y : AV) : Prop :=
  match o with
  | .q q => aq H (AX.ev a) q = some y
  | .s (.lit _ sz ps) => (∀ p ∈ ps, (AX.ev a p).flat = true ∧ (AX.ev a p).cells.length = sz) ∧ y = .imm sz (ps.map (AX.ev a))
  | .s _ => False
  | .c f args => ccall C (AX.ev a) f args H (fun y' H' => y' = y ∧ H' = H)
def Yields (C : (Nat → List AV → AHeap → (AV → AHeap → Prop) → Prop)) (o : AOper) (a : List AV) (H : AHeap) (y : AV) : Prop :=
  match o.guard with
  | none => yld C o.op a H y
  | some (t, want) => ∃ b, gdv (a.getD t .top) want = some b ∧ if b = true then yld C o.op a H y else y = .tup []
theorem astep_yields {o : AOper} {K : List AV → AHeap → Prop} (hc : o.op.cls ≤ 1) (h : astep C o a H K) : ∃ y, Yields C o a H y ∧ K (aput a o.dst y) H := by
  unfold astep at h
  unfold Yields
  split at h
  · rename_i hg
    rw [hg]
    cases ho : o.op with
    | q q =>
      rw [ho] at h
      obtain ⟨y, h1, h2⟩ := h
      exact ⟨y, h1, h2⟩
    | s s =>
      rw [ho] at h hc
      cases s <;> simp [AOp.cls] at hc
      exact ⟨_, ⟨h.1, rfl⟩, h.2⟩
    | c f args =>
      rw [ho] at h
      obtain ⟨y, h1, h2⟩ := h
      exact ⟨y, h1, h2⟩
  · rename_i t want hg
    split at h <;> (try (exact h.elim))
    rename_i b hb
    rw [hg]
    cases ho : o.op with
    | q q =>
      rw [ho] at h
      obtain ⟨h1, h2⟩ := h
      refine ⟨_, ⟨b, hb, ?_⟩, h2⟩
      cases hbw : b with
      | true =>
        obtain ⟨y, hy⟩ := Option.isSome_iff_exists.1 (h1 hbw)
        simp [yld, hy]
      | false => simp
    | s s =>
      rw [ho] at h hc
      cases s <;> simp [AOp.cls] at hc
      simp only [agop] at h
      cases hbw : b with
      | true =>
        rw [hbw, if_pos rfl] at h
        exact ⟨_, ⟨b, hb, by rw [hbw, if_pos rfl]; exact ⟨h.1, rfl⟩⟩, h.2⟩
      | false =>
        rw [hbw, if_neg (by simp)] at h
        exact ⟨_, ⟨b, hb, by rw [hbw, if_neg (by simp)]⟩, h⟩
    | c f args =>
      rw [ho] at h
      obtain ⟨y, h1, h2⟩ := h
      refine ⟨_, ⟨b, hb, ?_⟩, h2⟩
      cases hbw : b with
      | true => simpa [yld] using h1 hbw
      | false => simp
theorem yields_astep {o : AOper} {K : List AV → AHeap → Prop} {y : AV} (hc : o.op.cls ≤ 1) (hy : Yields C o a H y) (h : K (aput a o.dst y) H) : astep C o a H K := by
  unfold Yields at hy
  unfold astep
  split at hy
  · rename_i hg
    rw [hg]
    simp only
    cases ho : o.op with
    | q q => rw [ho] at hy; exact ⟨y, hy, h⟩
    | s s =>
      rw [ho] at hy hc
      cases s <;> simp [AOp.cls] at hc
      obtain ⟨h1, rfl⟩ := hy
      exact ⟨h1, h⟩
    | c f args => rw [ho] at hy; exact ⟨y, hy, h⟩
  · rename_i t want hg
    obtain ⟨b, hb, hy⟩ := hy
    rw [hg]
    simp only [hb]
    cases ho : o.op with
    | q q =>
      rw [ho] at hy
      simp only [agop]
      cases hbw : b with
      | true =>
        rw [hbw, if_pos rfl] at hy
        simp only [yld] at hy
        simpa [hy] using h
      | false =>
        rw [hbw, if_neg (by simp)] at hy
        subst hy
        simpa using h
    | s s =>
      rw [ho] at hy hc
      cases s <;> simp [AOp.cls] at hc
      simp only [agop]
      cases hbw : b with
      | true =>
        rw [hbw, if_pos rfl] at hy
        obtain ⟨h1, rfl⟩ := hy
        rw [if_pos rfl]
        exact ⟨h1, h⟩
      | false =>
        rw [hbw, if_neg (by simp)] at hy
        subst hy
        rw [if_neg (by simp)]
        exact h
    | c f args =>
      rw [ho] at hy
      simp only [agop]
      cases hbw : b with
      | true =>
        rw [hbw, if_pos rfl] at hy
        exact ⟨y, fun _ => hy, by simpa using h⟩
      | false =>
        rw [hbw, if_neg (by simp)] at hy
        subst hy
        exact ⟨.top, fun hh => by simp at hh, by simpa using h⟩
theorem getD_put {d : Option Nat} {y : AV} {t : Nat} (h : ∀ u, d = some u → t ≠ u) : (aput a d y).getD t .top = a.getD t .top := by
  cases d with
  | none => rfl
  | some u =>
    simp only [aput]
    rw [List.getD_eq_getElem?_getD, List.getD_eq_getElem?_getD, List.getElem?_set_ne (Ne.symm (h u rfl))]
/-- Another slot written, or memory of which it does nothing: it answers the same. -/
theorem yields_put {o : AOper} {d : Option Nat} {y z : AV} (hn : noLook d o = true) (hc : o.op.cls ≤ 1) : Yields C o (aput a d z) H y ↔ Yields C o a H y := by
  obtain ⟨h1, _, h3⟩ := looks_spec hn
  have hev : ∀ x ∈ o.op.reads, AX.ev (aput a d z) x = AX.ev a x := fun x hx => ev_put (fun t ht => h1 t ht x hx)
  have hy : yld C o.op (aput a d z) H y ↔ yld C o.op a H y := by
    cases ho : o.op with
    | q q => rw [ho] at hev; simp only [AOp.reads] at hev; simp only [yld]; rw [aq_congr q hev]
    | s s =>
      rw [ho] at hev hc
      cases s <;> simp [AOp.cls] at hc
      simp only [yld]
      simp only [AOp.reads, SOp.reads] at hev
      rw [map_congr' hev]
      constructor
      · rintro ⟨p, q⟩; exact ⟨fun x hx => by rw [← hev x hx]; exact p x hx, q⟩
      · rintro ⟨p, q⟩; exact ⟨fun x hx => by rw [hev x hx]; exact p x hx, q⟩
    | c f args => rw [ho] at hev; simp only [yld]; rw [ccall_congr hev]
  unfold Yields
  cases hg : o.guard with
  | none => exact hy
  | some x =>
    obtain ⟨t, want⟩ := x
    simp only
    rw [getD_put (fun u hu => h3 u t want hu hg)]
    constructor
    · rintro ⟨b, p, q⟩; exact ⟨b, p, by split at q <;> simp_all⟩
    · rintro ⟨b, p, q⟩; exact ⟨b, p, by split at q <;> simp_all⟩
theorem yields_heap {o : AOper} {H' : AHeap} {y : AV} (hc : o.op.cls = 0) : Yields C o a H y → Yields C o a H' y := by
  have hq : ∀ q : QOp, (AOp.q q).cls = 0 → aq H (AX.ev a) q = aq H' (AX.ev a) q := by
    intro q hc
    cases q <;> first | rfl | simp [AOp.cls] at hc
  have hy : yld C o.op a H y → yld C o.op a H' y := by
    cases ho : o.op with
    | q q => rw [ho] at hc; simp only [yld]; rw [hq q hc]; exact id
    | s s => rw [ho] at hc; cases s <;> simp [AOp.cls] at hc; exact id
    | c f args => rw [ho] at hc; simp [AOp.cls] at hc
  unfold Yields
  cases hg : o.guard with
  | none => exact hy
  | some x =>
    obtain ⟨t, want⟩ := x
    rintro ⟨b, p, q⟩
    exact ⟨b, p, by split at q <;> simp_all⟩
theorem yields_push {o : AOper} {x : AObj} {y : AV} (hc : o.op.isLoad = true) : Yields C o a H y → Yields C o a (H.push x) y := by
  have hl : ∀ (ag : Bool) (n : Nat) (v z : AV), aload H ag n v = some z → aload (H.push x) ag n v = some z := by
    intro ag n v z h
    unfold aload at h ⊢
    split at h
    · split at h <;> (try (cases h; done))
      rename_i e g cs hg
      rw [push_get_old _ _ _ (H.lt hg), hg]
      exact h
    · exact h
    · cases h
  have hy : yld C o.op a H y → yld C o.op a (H.push x) y := by
    cases ho : o.op with
    | q q =>
      rw [ho] at hc
      cases q <;> simp [AOp.isLoad] at hc
      simp only [yld, aq]
      exact hl _ _ _ _
    | s s => rw [ho] at hc; simp [AOp.isLoad] at hc
    | c f args => rw [ho] at hc; simp [AOp.isLoad] at hc
  unfold Yields
  cases hg : o.guard with
  | none => exact hy
  | some x =>
    obtain ⟨t, want⟩ := x
    rintro ⟨b, p, q⟩
    exact ⟨b, p, by split at q <;> simp_all⟩
/-- Calls of which more is told are told less. -/
def Mono (C : (Nat → List AV → AHeap → (AV → AHeap → Prop) → Prop)) : Prop := ∀ f args H K K', (∀ y H', K y H' → K' y H') → C f args H K → C f args H K'
theorem as_mono (hC : Mono C) {ρ : AX → AV} {s : SOp} {K K' : AV → AHeap → Prop} (hk : ∀ y H', K y H' → K' y H') (h : as_ C H ρ s K) : as_ C H ρ s K' := by
  cases s <;> simp only [as_] at h ⊢
  case alloc => exact hk _ _ h
  case box => exact ⟨h.1, hk _ _ h.2⟩
  case store => obtain ⟨H', h1, h2⟩ := h; exact ⟨H', h1, hk _ _ h2⟩
  case lit => exact ⟨h.1, hk _ _ h.2⟩
  case litw => exact ⟨h.1, hk _ _ h.2⟩
  case litc => exact ⟨h.1, hk _ _ h.2⟩
  case app => obtain ⟨y, H', h1, h2⟩ := h; exact ⟨y, H', h1, hk _ _ h2⟩
  case copy => obtain ⟨y, H', h1, h2⟩ := h; exact ⟨y, H', h1, hk _ _ h2⟩
  case mk => obtain ⟨m, h1, h2, h3⟩ := h; exact ⟨m, h1, h2, hk _ _ h3⟩
  case s2b => obtain ⟨s, h1, h2, h3⟩ := h; exact ⟨s, h1, h2, hk _ _ h3⟩
  case call => exact hC _ _ _ _ _ hk h
  case callv =>
    split at h
    · exact hC _ _ _ _ _ hk h
    · exact h
  case put => exact ⟨h.1, hk _ _ h.2⟩
  case lookup => obtain ⟨y, h1, h2⟩ := h; exact ⟨y, h1, hk _ _ h2⟩
  case mkmap => exact hk _ _ h
  case mapup => obtain ⟨H', h1, h2⟩ := h; exact ⟨H', h1, hk _ _ h2⟩
  case mlen => obtain ⟨y, h1, h2⟩ := h; exact ⟨y, h1, hk _ _ h2⟩
  case bests => obtain ⟨y, h1, h2⟩ := h; exact ⟨y, h1, hk _ _ h2⟩
  case slice3 => obtain ⟨y, h1, h2⟩ := h; exact ⟨y, h1, hk _ _ h2⟩
  case slice3l => obtain ⟨y, h1, h2⟩ := h; exact ⟨y, h1, hk _ _ h2⟩
  case appz => obtain ⟨y, H', h1, h2⟩ := h; exact ⟨y, H', h1, hk _ _ h2⟩
  case range => obtain ⟨y, H', h1, h2⟩ := h; exact ⟨y, H', h1, hk _ _ h2⟩
  case next => obtain ⟨y, H', h1, h2⟩ := h; exact ⟨y, H', h1, hk _ _ h2⟩
  case clear => obtain ⟨H', h1, h2⟩ := h; exact ⟨H', h1, hk _ _ h2⟩
theorem aop_mono (hC : Mono C) {o : AOp} {K K' : AV → AHeap → Prop} (hk : ∀ y H', K y H' → K' y H') (h : aop C o a H K) : aop C o a H K' := by
  cases o with
  | q q => obtain ⟨y, h1, h2⟩ := h; exact ⟨y, h1, hk _ _ h2⟩
  | s s => exact as_mono hC hk h
  | c f args => obtain ⟨y, h1, h2⟩ := h; exact ⟨y, h1, hk _ _ h2⟩
theorem agop_mono (hC : Mono C) {o : AOp} {b : Bool} {K K' : AV → AHeap → Prop} (hk : ∀ y H', K y H' → K' y H') (h : agop C o b a H K) : agop C o b a H K' := by
  cases o with
  | q q => exact ⟨h.1, hk _ _ h.2⟩
  | s s =>
    simp only [agop] at h ⊢
    split at h
    · rename_i hb; rw [if_pos hb]; exact as_mono hC hk h
    · rename_i hb; rw [if_neg hb]; exact hk _ _ h
  | c f args => obtain ⟨y, h1, h2⟩ := h; exact ⟨y, h1, hk _ _ h2⟩
theorem astep_mono (hC : Mono C) {o : AOper} {K K' : List AV → AHeap → Prop} (hk : ∀ a' H', K a' H' → K' a' H') (h : astep C o a H K) : astep C o a H K' := by
  unfold astep at h ⊢
  split at h
  · exact aop_mono hC (fun y H' q => hk _ _ q) h
  · split at h <;> (try (exact h.elim))
    exact agop_mono hC (fun y H' q => hk _ _ q) h
/-- Step oj, apart from oi: whether oi's answer is there already makes no difference to it; and it makes none to oi. -/
theorem step_put (hC : Mono C) {oi oj : AOper} {y : AV} {K : List AV → AHeap → Prop} (hp : pairOk oi oj = true) (hi : oi.op.cls ≤ 1) (hy : Yields C oi a H y) (h : astep C oj (aput a oi.dst y) H K) :
    astep C oj a H (fun a' H' => Yields C oi a' H' y ∧ K (aput a' oi.dst y) H') := by
  simp only [pairOk, Bool.and_eq_true] at hp
  obtain ⟨⟨p1, p2⟩, p3⟩ := hp
  obtain ⟨l1, l2, l3⟩ := looks_spec p1
  have hcomm : ∀ z, aput (aput a oi.dst y) oj.dst z = aput (aput a oj.dst z) oi.dst y := fun z => put_comm (fun t ht => l2 t ht)
  by_cases hj : oj.op.cls ≤ 1
  · obtain ⟨z, h1, h2⟩ := astep_yields hj h
    rw [yields_put p1 hj] at h1
    refine yields_astep hj h1 ⟨(yields_put p2 hi).2 hy, ?_⟩
    rw [← hcomm]
    exact h2
  · have hev : ∀ x ∈ oj.op.reads, AX.ev (aput a oi.dst y) x = AX.ev a x := fun x hx => ev_put (fun t ht => l1 t ht x hx)
    cases ho : oj.op with
    | q q => rw [ho] at hj; cases q <;> simp [AOp.cls] at hj
    | c f args => rw [ho] at hj; simp [AOp.cls] at hj
    | s s =>
      rw [ho] at hev
      simp only [AOp.reads] at hev
      have hsame : ∀ H', (oi.op.cls = 0 ∨ H' = H ∨ (oi.op.isLoad = true ∧ ∃ x, H' = H.push x)) → ∀ z, Yields C oi (aput a oj.dst z) H' y := by
        intro H' hh z
        rw [yields_put p2 hi]
        rcases hh with hh | rfl | ⟨hh, x, rfl⟩
        · exact yields_heap hh hy
        · exact hy
        · exact yields_push hh hy
      have key : ∀ K' : AV → AHeap → Prop, as_ C H (AX.ev a) s K' → (∀ z H', K' z H' → K (aput (aput a oi.dst y) oj.dst z) H') → as_ C H (AX.ev a) s fun z H' => Yields C oi (aput a oj.dst z) H' y ∧ K (aput (aput a oj.dst z) oi.dst y) H' := by
        intro K' hk' hkk
        simp only [Bool.or_eq_true, beq_iff_eq, decide_eq_true_eq, Bool.and_eq_true] at p3
        rcases p3 with (p3 | p3) | ⟨p3, p4⟩
        · exact as_mono hC (fun z H' q => ⟨hsame H' (.inl p3) z, by rw [← hcomm]; exact hkk z H' q⟩) hk'
        · exact absurd p3 hj
        · rw [ho] at p4
          cases s <;> simp [AOp.cls] at p4
          simp only [as_] at hk' ⊢
          exact ⟨hsame _ (.inr (.inr ⟨p3, _, rfl⟩)) _, by rw [← hcomm]; exact hkk _ _ hk'⟩
      unfold astep at h ⊢
      rw [ho] at h ⊢
      cases hg : oj.guard with
      | none =>
        rw [hg] at h
        (try simp only at h ⊢)
        simp only [aop] at h ⊢
        rw [as_congr s hev] at h
        exact key _ h (fun z H' q => q)
      | some x =>
        obtain ⟨t, want⟩ := x
        rw [hg] at h
        (try simp only at h ⊢)
        rw [getD_put (fun u hu => l3 u t want hu hg)] at h
        split at h <;> (try (exact h.elim))
        rename_i b hb
        (try simp only [hb])
        simp only [agop] at h ⊢
        split at h
        · rename_i hbw
          rw [if_pos hbw]
          rw [as_congr s hev] at h
          exact key _ h (fun z H' q => q)
        · rename_i hbw
          rw [if_neg hbw]
          exact ⟨hsame _ (.inr (.inl rfl)) _, by rw [← hcomm]; exact h⟩
def stepAt (C : (Nat → List AV → AHeap → (AV → AHeap → Prop) → Prop)) (al : List AOper) (i : Nat) (K : List AV → AHeap → Prop) (a : List AV) (H : AHeap) : Prop :=
  match al[i]? with
  | none => K a H
  | some o => astep C o a H K
/-- Whatever order is drawn from here on. -/
def aAny (C : (Nat → List AV → AHeap → (AV → AHeap → Prop) → Prop)) (ops : Array Oper) (al : List AOper) (Q : List AV → AHeap → Prop) : Nat → Array Bool → List AV → AHeap → Prop
  | 0, listed, a, H => Region.ready .any ops listed = [] ∧ Q a H
  | fuel + 1, listed, a, H => (Region.ready .any ops listed = [] → Q a H) ∧ ∀ i ∈ Region.ready .any ops listed, stepAt C al i (aAny C ops al Q fuel (listed.setIfInBounds i true)) a H
/-- Who waits for i, by itself. -/
def waitsFor (ops : Array Oper) (j i : Nat) : Bool := match ops[j]? with
  | some o => o.after.any fun e => Region.binds .any e && e.on == i
  | none => false
theorem aAny_first (hC : Mono C) {ops : Array Oper} {al : List AOper} {Q : List AV → AHeap → Prop} (hl : ops.size = al.length) {i : Nat} {oi : AOper} {y : AV} (hi : al[i]? = some oi) (hc : oi.op.cls ≤ 1) (dep : Nat → Bool) (hw : ∀ j, dep j = true → waitsFor ops j i = true ∨ ∃ k, dep k = true ∧ waitsFor ops j k = true) :
    ∀ (fuel : Nat) (listed : Array Bool) (a : List AV) (H : AHeap), (∀ j, dep j = true → listed[j]? = some false) → (∀ j oj, al[j]? = some oj → j ≠ i → listed.getD j true = false → dep j = false → pairOk oi oj = true) →
      i ∈ Region.ready .any ops listed → Yields C oi a H y → aAny C ops al Q fuel (listed.setIfInBounds i true) (aput a oi.dst y) H → aAny C ops al Q (fuel + 1) listed a H := by
  intro fuel
  induction fuel with
  | zero =>
    intro listed a H _ _ hr hy h
    refine ⟨fun hh => (by rw [hh] at hr; cases hr), fun j hj => ?_⟩
    by_cases hji : j = i
    · subst hji
      unfold stepAt
      rw [hi]
      exact yields_astep hc hy h
    · have := ready_mono hj hji
      rw [h.1] at this
      cases this
  | succ fuel ih =>
    intro listed a H hun0 hfree hr hy h
    refine ⟨fun hh => (by rw [hh] at hr; cases hr), fun j hj => ?_⟩
    by_cases hji : j = i
    · subst hji
      unfold stepAt
      rw [hi]
      exact yields_astep hc hy h
    · have h1 := h.2 j (ready_mono hj hji)
      obtain ⟨hjun, oj, hoj, hall⟩ := mem_ready.1 hj
      have hjl : j < al.length := by rw [← hl]; exact (Array.getElem?_eq_some_iff.1 hoj).1
      have hjal : al[j]? = some al[j] := List.getElem?_eq_getElem hjl
      have hlist : ∀ k, waitsFor ops j k = true → listed[k]? ≠ some false := by
        intro k hk h0
        unfold waitsFor at hk
        rw [hoj] at hk
        simp only at hk
        obtain ⟨m, hm, hmm⟩ := Array.any_eq_true.1 hk
        simp only [Bool.and_eq_true, beq_iff_eq] at hmm
        have h2 := hall _ (Array.getElem_mem hm) hmm.1
        rw [hmm.2] at h2
        rw [Array.getD_eq_getD_getElem?, h0] at h2
        cases h2
      have hi0 : listed[i]? = some false := by
        have h0 := (mem_ready.1 hr).1
        rcases Nat.lt_or_ge i listed.size with h' | h'
        · simp [h'] at h0 ⊢
          exact h0
        · simp [Array.getElem?_eq_none h'] at h0
      have hnot : dep j = false := by
        cases hd : dep j with
        | false => rfl
        | true =>
          rcases hw j hd with h3 | ⟨k, hk, h3⟩
          · exact absurd hi0 (hlist i h3)
          · exact absurd (hun0 k hk) (hlist k h3)
      have hp := hfree j al[j] hjal hji hjun hnot
      unfold stepAt at h1 ⊢
      rw [hjal] at h1 ⊢
      refine astep_mono hC (fun a' H' hh => ?_) (step_put hC hp hc hy h1)
      refine ih (listed.setIfInBounds j true) a' H' (fun k hk => ?_) (fun k ok hk hki hun hno => ?_) (ready_mono hr (Ne.symm hji)) hh.1 ?_
      · have hjk : j ≠ k := by rintro rfl; rw [hk] at hnot; cases hnot
        rw [Array.getElem?_setIfInBounds_ne hjk]
        exact hun0 k hk
      · refine hfree k ok hk hki ?_ hno
        by_cases hjk : j = k
        · subst hjk; exact hjun
        · rw [getD_set_ne true hjk] at hun; exact hun
      · rw [Array.setIfInBounds_comm _ _ hji]
        exact hh.2
/-- Who waits for i, by itself or through others (one pass). -/
def deps (ops : Array Oper) (listed : Array Bool) (i : Nat) : List Nat := (List.range ops.size).foldl (fun D j => if listed[j]? == some false && (waitsFor ops j i || D.any (waitsFor ops j)) then j :: D else D) []
def depsOk (ops : Array Oper) (al : List AOper) (oi : AOper) (listed : Array Bool) (i : Nat) (D : List Nat) : Bool :=
  (D.all fun j => listed[j]? == some false && (waitsFor ops j i || D.any (waitsFor ops j))) && (List.range al.length).all fun j => j == i || listed.getD j true || D.contains j || (match al[j]? with | some oj => pairOk oi oj | none => true)
/-- An order that serves for all: each step is ready; if it leaves memory alone, all that don't wait for it may go ahead of it; else it is the only one that's ready. -/
def planOk (ops : Array Oper) (al : List AOper) : Array Bool → List Nat → Bool
  | listed, [] => (Region.ready .any ops listed).isEmpty
  | listed, i :: σ => match al[i]? with
    | some oi => (Region.ready .any ops listed).contains i && (if oi.op.cls ≤ 1 then ((List.range al.length).all fun j => j == i || listed.getD j true || waitsFor ops j i || (match al[j]? with | some oj => pairOk oi oj | none => true)) || depsOk ops al oi listed i (deps ops listed i)
      else Region.ready .any ops listed == [i]) && planOk ops al (listed.setIfInBounds i true) σ
    | none => false
def pick_ (al : List AOper) (σ : List Nat) : List AOper := σ.filterMap fun i => al[i]?
theorem plan_sound (hC : Mono C) {ops : Array Oper} {al : List AOper} {Q : List AV → AHeap → Prop} (hl : ops.size = al.length) : ∀ (σ : List Nat) (listed : Array Bool) (a : List AV) (H : AHeap), planOk ops al listed σ = true → aops C (pick_ al σ) a H Q → aAny C ops al Q σ.length listed a H
  | [], listed, a, H, hp, h => ⟨by simpa [planOk] using hp, h⟩
  | i :: σ, listed, a, H, hp, h => by
    simp only [planOk] at hp
    split at hp <;> (try (cases hp; done))
    rename_i oi hoi
    simp only [Bool.and_eq_true] at hp
    obtain ⟨⟨p1, p2⟩, p3⟩ := hp
    have hr : i ∈ Region.ready .any ops listed := by simpa using p1
    have hpk : pick_ al (i :: σ) = oi :: pick_ al σ := by simp [pick_, hoi]
    rw [hpk] at h
    simp only [aops] at h
    by_cases hc : oi.op.cls ≤ 1
    · rw [if_pos hc] at p2
      obtain ⟨y, h1, h2⟩ := astep_yields hc h
      rcases (Bool.or_eq_true _ _).mp p2 with p2 | p2
      · refine aAny_first hC hl hoi hc (fun j => (listed[j]? == some false) && waitsFor ops j i) (fun j hj => .inl (by simp only [Bool.and_eq_true] at hj; exact hj.2)) σ.length listed a H (fun j hj => by simp only [Bool.and_eq_true, beq_iff_eq] at hj; exact hj.1) (fun j oj hj hji hun hno => ?_) hr h1 (plan_sound hC hl σ _ _ _ p3 h2)
        rw [List.all_eq_true] at p2
        have hjl : j < al.length := (List.getElem?_eq_some_iff.1 hj).1
        have h3 := p2 j (List.mem_range.2 hjl)
        have hno2 : waitsFor ops j i = false := by
          have hl0 : listed[j]? = some false := by
            rcases Nat.lt_or_ge j listed.size with h' | h'
            · simp [Array.getD_eq_getD_getElem?, h'] at hun ⊢
              exact hun
            · simp [Array.getD_eq_getD_getElem?, Array.getElem?_eq_none h'] at hun
          simp only [hl0, beq_self_eq_true, Bool.true_and] at hno
          exact hno
        rw [hj, hno2, hun] at h3
        simpa [hji] using h3
      · generalize deps ops listed i = D at p2
        simp only [depsOk, Bool.and_eq_true, List.all_eq_true] at p2
        obtain ⟨p4, p5⟩ := p2
        refine aAny_first hC hl hoi hc (fun j => D.contains j) (fun j hj => ?_) σ.length listed a H (fun j hj => ?_) (fun j oj hj hji hun hno => ?_) hr h1 (plan_sound hC hl σ _ _ _ p3 h2)
        · have h3 := (p4 j (by simpa using hj)).2
          rcases (Bool.or_eq_true _ _).mp h3 with h3 | h3
          · exact .inl h3
          · obtain ⟨k, hk, hkk⟩ := List.any_eq_true.1 h3
            exact .inr ⟨k, by simpa using hk, hkk⟩
        · have h3 := (p4 j (by simpa using hj)).1
          simpa using h3
        · have hjl : j < al.length := (List.getElem?_eq_some_iff.1 hj).1
          have h3 := p5 j (List.mem_range.2 hjl)
          have hno2 : D.contains j = false := hno
          rw [hj, hno2, hun] at h3
          simpa [hji] using h3
    · rw [if_neg hc] at p2
      have hone : Region.ready .any ops listed = [i] := by simpa using p2
      refine ⟨fun hh => (by rw [hh] at hone; cases hone), fun j hj => ?_⟩
      rw [hone] at hj
      obtain rfl : j = i := by simpa using hj
      unfold stepAt
      rw [hoi]
      exact astep_mono hC (fun a' H' hh => plan_sound hC hl σ _ a' H' p3 hh) h
def planOkE (E : Array Bool → Bool) (ops : Array Oper) (al : List AOper) : Array Bool → List Nat → Bool
  | listed, [] => E listed
  | listed, i :: σ => match al[i]? with
    | some oi => (Region.ready .any ops listed).contains i && (if oi.op.cls ≤ 1 then ((List.range al.length).all fun j => j == i || listed.getD j true || waitsFor ops j i || (match al[j]? with | some oj => pairOk oi oj | none => true)) || depsOk ops al oi listed i (deps ops listed i)
      else Region.ready .any ops listed == [i]) && planOkE E ops al (listed.setIfInBounds i true) σ
    | none => false
theorem plan_soundE (hC : Mono C) {ops : Array Oper} {al : List AOper} {Q R : List AV → AHeap → Prop} {E : Array Bool → Bool} {m : Nat} (hl : ops.size = al.length) (hE : ∀ (listed : Array Bool) (a : List AV) (H : AHeap), E listed = true → R a H → aAny C ops al Q m listed a H) : ∀ (σ : List Nat) (listed : Array Bool) (a : List AV) (H : AHeap), planOkE E ops al listed σ = true → aops C (pick_ al σ) a H R → aAny C ops al Q (m + σ.length) listed a H
  | [], listed, a, H, hp, h => hE listed a H (by simpa [planOkE] using hp) h
  | i :: σ, listed, a, H, hp, h => by
    simp only [planOkE] at hp
    split at hp <;> (try (cases hp; done))
    rename_i oi hoi
    simp only [Bool.and_eq_true] at hp
    obtain ⟨⟨p1, p2⟩, p3⟩ := hp
    have hr : i ∈ Region.ready .any ops listed := by simpa using p1
    have hpk : pick_ al (i :: σ) = oi :: pick_ al σ := by simp [pick_, hoi]
    rw [hpk] at h
    simp only [aops] at h
    by_cases hc : oi.op.cls ≤ 1
    · rw [if_pos hc] at p2
      obtain ⟨y, h1, h2⟩ := astep_yields hc h
      rcases (Bool.or_eq_true _ _).mp p2 with p2 | p2
      · refine aAny_first hC hl hoi hc (fun j => (listed[j]? == some false) && waitsFor ops j i) (fun j hj => .inl (by simp only [Bool.and_eq_true] at hj; exact hj.2)) (m + σ.length) listed a H (fun j hj => by simp only [Bool.and_eq_true, beq_iff_eq] at hj; exact hj.1) (fun j oj hj hji hun hno => ?_) hr h1 (plan_soundE hC hl hE σ _ _ _ p3 h2)
        rw [List.all_eq_true] at p2
        have hjl : j < al.length := (List.getElem?_eq_some_iff.1 hj).1
        have h3 := p2 j (List.mem_range.2 hjl)
        have hno2 : waitsFor ops j i = false := by
          have hl0 : listed[j]? = some false := by
            rcases Nat.lt_or_ge j listed.size with h' | h'
            · simp [Array.getD_eq_getD_getElem?, h'] at hun ⊢
              exact hun
            · simp [Array.getD_eq_getD_getElem?, Array.getElem?_eq_none h'] at hun
          simp only [hl0, beq_self_eq_true, Bool.true_and] at hno
          exact hno
        rw [hj, hno2, hun] at h3
        simpa [hji] using h3
      · generalize deps ops listed i = D at p2
        simp only [depsOk, Bool.and_eq_true, List.all_eq_true] at p2
        obtain ⟨p4, p5⟩ := p2
        refine aAny_first hC hl hoi hc (fun j => D.contains j) (fun j hj => ?_) (m + σ.length) listed a H (fun j hj => ?_) (fun j oj hj hji hun hno => ?_) hr h1 (plan_soundE hC hl hE σ _ _ _ p3 h2)
        · have h3 := (p4 j (by simpa using hj)).2
          rcases (Bool.or_eq_true _ _).mp h3 with h3 | h3
          · exact .inl h3
          · obtain ⟨k, hk, hkk⟩ := List.any_eq_true.1 h3
            exact .inr ⟨k, by simpa using hk, hkk⟩
        · have h3 := (p4 j (by simpa using hj)).1
          simpa using h3
        · have hjl : j < al.length := (List.getElem?_eq_some_iff.1 hj).1
          have h3 := p5 j (List.mem_range.2 hjl)
          have hno2 : D.contains j = false := hno
          rw [hj, hno2, hun] at h3
          simpa [hji] using h3
    · rw [if_neg hc] at p2
      have hone : Region.ready .any ops listed = [i] := by simpa using p2
      refine ⟨fun hh => (by rw [hh] at hone; cases hone), fun j hj => ?_⟩
      rw [hone] at hj
      obtain rfl : j = i := by simpa using hj
      unfold stepAt
      rw [hoi]
      exact astep_mono hC (fun a' H' hh => plan_soundE hC hl hE σ _ a' H' p3 hh) h
end
section
variable {P : Program} {g : Ghost} {w : World} {H : AHeap} {act : Act} {a : List AV}
theorem calls_mono : Mono (ACalls P) := fun f args H K K' hk h => h.mono hk
/-- Some calls told as ones that leave memory alone; some reads told as ones of cells that nobody writes to. -/
def turnC (o : AOper) : AOper := match o.op with
  | .s (.call f args) => { o with op := .c (.fn f) args }
  | .s (.callv x args) => { o with op := .c (.val x) args }
  | .q (.load ag n x) => { o with op := .q (.loadr ag n x) }
  | _ => o
theorem agop_true {C : (Nat → List AV → AHeap → (AV → AHeap → Prop) → Prop)} {p : AOp} {K : AV → AHeap → Prop} : agop C p true a H K ↔ aop C p a H K := by
  cases p with
  | q q =>
    simp only [agop, aop, if_true, forall_const, true_implies]
    constructor
    · rintro ⟨h1, h2⟩
      obtain ⟨y, hy⟩ := Option.isSome_iff_exists.1 h1
      rw [hy] at h2
      exact ⟨y, hy, h2⟩
    · rintro ⟨y, hy, h2⟩
      rw [hy]
      exact ⟨rfl, h2⟩
  | s s => simp [agop, aop]
  | c f args => simp [agop, aop]
theorem agop_false {C : (Nat → List AV → AHeap → (AV → AHeap → Prop) → Prop)} {p : AOp} {K : AV → AHeap → Prop} : agop C p false a H K ↔ K (.tup []) H := by
  cases p with
  | q q => simp [agop]
  | s s => simp [agop]
  | c f args => simp [agop]
theorem turn_op {C : (Nat → List AV → AHeap → (AV → AHeap → Prop) → Prop)} {p p' : AOp} {o : AOper} {K : List AV → AHeap → Prop} (hp : o.op = p) (hw : ∀ (a : List AV) (H : AHeap) (K : AV → AHeap → Prop), aop C p' a H K → aop C p a H K) (h : astep C { o with op := p' } a H K) : astep C o a H K := by
  unfold astep at h ⊢
  simp only at h
  subst hp
  cases hg : o.guard with
  | none =>
    rw [hg] at h
    exact hw _ _ _ h
  | some x =>
    obtain ⟨t, want⟩ := x
    rw [hg] at h
    (try simp only at h ⊢)
    split at h <;> (try (exact h.elim))
    rename_i b hb
    (try simp only [hb])
    cases b with
    | true => exact agop_true.2 (hw _ _ _ (agop_true.1 h))
    | false => exact agop_false.2 (agop_false.1 h)
theorem turn_step {C : (Nat → List AV → AHeap → (AV → AHeap → Prop) → Prop)} (hC : Mono C) {o : AOper} {K : List AV → AHeap → Prop} (h : astep C (turnC o) a H K) : astep C o a H K := by
  unfold turnC at h
  split at h
  · rename_i f args ho
    refine turn_op ho (fun a H K h => ?_) h
    obtain ⟨y, h1, h2⟩ := h
    exact hC _ _ _ _ _ (fun y' H' ⟨e1, e2⟩ => by rw [e1, e2]; exact h2) h1
  · rename_i x args ho
    refine turn_op ho (fun a H K h => ?_) h
    obtain ⟨y, h1, h2⟩ := h
    show as_ C H (AX.ev a) (.callv x args) K
    simp only [as_]
    simp only [ccall] at h1
    split at h1 <;> (try (exact h1.elim))
    rename_i hv
    rw [hv]
    exact hC _ _ _ _ _ (fun y' H' ⟨e1, e2⟩ => by rw [e1, e2]; exact h2) h1
  · rename_i ag n x ho
    refine turn_op ho (fun a H K h => ?_) h
    obtain ⟨y, h1, h2⟩ := h
    refine ⟨y, ?_, h2⟩
    simp only [aq, aloadr] at h1
    split at h1 <;> (try (cases h1; done))
    rename_i ys hy
    simp only [aq, hy, aload]
    exact h1
  · exact h
theorem Sim.heap {w' : World} (hS : Sim g w H) (h : w'.heap = w.heap) (h1 : w'.os = w.os) (h2 : w'.tape = w.tape) (h3 : w'.output = w.output) : Ext g w g w' ∧ Sim g w' H := by
  have hE : Ext g w g w' := ⟨fun _ _ _ q => q, fun _ q => q, fun b _ => by rw [h], fun b s q => by unfold World.shape? at q ⊢; rw [h]; exact q, by rw [h]; exact Nat.le_refl _, h1, h2, h3, fun _ _ q => q, fun b _ _ => by rw [h]⟩
  exact ⟨hE, ⟨fun b hb => by rw [h]; exact hS.zlt b hb, fun i k b hb => by rw [h]; exact hS.mlt i k b hb, fun i o ho => (hS.live i o ho).ext hE (fun b _ => by rw [h]), hS.inj, hS.nz, hS.gen, hS.var.ext hE⟩⟩
theorem aAny_sound {W : List Nat} {ops : Array Oper} {al : List AOper} {Q : List AV → AHeap → Prop} {Qc : Exit → Act → World → Prop} (hal : ∀ (i : Nat) (o : Oper), ops[i]? = some o → ∃ ao ao', al[i]? = some ao' ∧ trOper P W ops o = some ao ∧ (ao' = ao ∨ ao' = turnC ao)) :
    ∀ (fuel : Nat) (listed : Array Bool) (g : Ghost) (w : World) (H : AHeap) (act : Act) (a : List AV), Sim g w H → RepAct g w act a → aAny (ACalls P) ops al Q fuel listed a H →
      (∀ a' H' g' w' act', Q a' H' → Ext g w g' w' → Sim g' w' H' → RepAct g' w' act' a' → Qc .normal act' w') → wpAny P .any ops Qc fuel listed act w
  | 0, listed, g, w, H, act, a, hS, hR, h, hn => ⟨h.1, hn a H g w act h.2 (Ext.refl _ _) hS hR⟩
  | fuel + 1, listed, g, w, H, act, a, hS, hR, h, hn => by
    refine ⟨fun hh => hn a H g w act (h.1 hh) (Ext.refl _ _) hS hR, fun i hi => ?_⟩
    have h1 := h.2 i hi
    obtain ⟨_, o, ho, _⟩ := mem_ready.1 hi
    obtain ⟨ao, ao', hao, htr, hturn⟩ := hal i o ho
    unfold stepAt at h1
    rw [hao] at h1
    unfold wpOp
    rw [ho]
    have h2 : astep (ACalls P) ao a H (aAny (ACalls P) ops al Q fuel (listed.setIfInBounds i true)) := by
      rcases hturn with rfl | rfl
      · exact h1
      · exact turn_step calls_mono h1
    exact astep_sound htr hS hR h2 (fun a' H' g' w' act' q hE hS' hR' _ => aAny_sound hal fuel _ g' w' H' act' a' hS' hR' q (fun a2 H2 g2 w2 act2 q2 hE2 => hn a2 H2 g2 w2 act2 q2 (hE.trans hE2)))
/-- Those that an operation waits for, one behind the other. -/
def ahead (ops : Array Oper) (i : Nat) : List Nat := ((List.range i).reverse).foldl (fun D j => if D.any (fun d => waitsFor ops d j) then j :: D else D) [i]
/-- Whether two operations of a region are without order, and the other one is of a kind. -/
def beside (ops : Array Oper) (al : List AOper) (i : Nat) (kind : AOp → Bool) : Bool := (List.range al.length).any fun j => j != i && (match al[j]? with | some q => kind q.op | none => false) && !(ahead ops i).contains j && !(ahead ops j).contains i
def AOp.isCall : AOp → Bool
  | .s (.call _ _) | .s (.callv _ _) | .c _ _ => true
  | _ => false
/-- Which calls are told as ones that leave memory alone: such as stand beside a read without order; which reads as ones of cells that nobody writes to: such as stand beside a write without order. -/
def turnAll (ops : Array Oper) (al : List AOper) : List AOper := (List.range al.length).map fun i =>
  let o := (al[i]?).getD ⟨none, .q (.num 0), none⟩
  if (o.op.isCall && beside ops al i (fun q => q.cls == 1 || q.isCall)) || (o.op.isLoad && beside ops al i (fun q => q.cls == 3 && !q.isCall)) then turnC o else o
def planGo (ops : Array Oper) (al : List AOper) : Nat → Array Bool → List Nat
  | 0, _ => []
  | fuel + 1, listed =>
    let r := Region.ready .any ops listed
    match r.find? fun i => match al[i]? with | some o => o.op.cls ≤ 1 | none => false with
    | some i => i :: planGo ops al fuel (listed.setIfInBounds i true)
    | none => match r with
      | i :: _ => i :: planGo ops al fuel (listed.setIfInBounds i true)
      | [] => []
def trDraw (P : Program) (W : List Nat) (ops : Array Oper) : Option (List AOper) :=
  match trOpers P W ops ops.toList with
  | some al0 =>
    let al := turnAll ops al0
    let σ := planGo ops al ops.size (Array.replicate ops.size false)
    if al.length = al0.length ∧ σ.length = ops.size ∧ planOk ops al (Array.replicate ops.size false) σ = true then some (pick_ al σ) else none
  | none => none
theorem turnAll_get (ops : Array Oper) (al : List AOper) (i : Nat) (o : AOper) (h : al[i]? = some o) : ∃ o', (turnAll ops al)[i]? = some o' ∧ (o' = o ∨ o' = turnC o) := by
  have hlt : i < al.length := (List.getElem?_eq_some_iff.1 h).1
  unfold turnAll
  rw [List.getElem?_map, List.getElem?_range hlt]
  simp only [Option.map_some, h, Option.getD_some]
  split
  · exact ⟨_, rfl, .inr rfl⟩
  · exact ⟨_, rfl, .inl rfl⟩
theorem draw_sound {W : List Nat} {ops : Array Oper} {al : List AOper} {id : Nat} {Q : List AV → AHeap → Prop} {Qc : Exit → Act → World → Prop} (hm : P.follows .mixedOrders = true) (h : trDraw P W ops = some al) (hS : Sim g w H) (hR : RepAct g w act a) (hk : aops (ACalls P) al a H Q)
    (hn : ∀ a' H' g' w' act', Q a' H' → Ext g w g' w' → Sim g' w' H' → RepAct g' w' act' a' → Qc .normal act' w') : (Code.region id ops true).wp P Qc act w := by
  unfold trDraw at h
  split at h <;> (try (cases h; done))
  rename_i al0 h0
  simp only at h
  split at h <;> (try (cases h; done))
  rename_i hc
  obtain ⟨c1, c2, c3⟩ := hc
  obtain rfl := Option.some.inj h
  obtain ⟨hl, hget⟩ := trOpers_get _ _ h0
  have hsz : ops.size = (turnAll ops al0).length := by rw [c1, ← hl]; simp
  obtain ⟨hE, hS'⟩ := hS.heap (w' := { w with drawn := w.drawn + 1 }) rfl rfl rfl rfl
  have h1 := plan_sound (calls_mono (P := P)) hsz _ _ a H c3 hk
  rw [c2] at h1
  refine wp_region_any hm (aAny_sound (W := W) (fun i o ho => ?_) ops.size _ g _ H act a hS' (hR.ext hE) h1 (fun a2 H2 g2 w2 act2 q2 hE2 => hn a2 H2 g2 w2 act2 q2 (hE.trans hE2)))
  obtain ⟨ao, hao, htr⟩ := hget i o (by simpa using ho)
  obtain ⟨ao', h2, h3⟩ := turnAll_get ops al0 i ao hao
  exact ⟨ao, ao', h2, htr, h3⟩
/-- Reads that stand beside a write or a call without order are told as ones of cells that nobody writes to; calls stay. -/
def turnLoads (ops : Array Oper) (al : List AOper) : List AOper := (List.range al.length).map fun i =>
  let o := (al[i]?).getD ⟨none, .q (.num 0), none⟩
  if o.op.isLoad && beside ops al i (fun q => q.cls == 3) then turnC o else o
def trDrawF (P : Program) (W : List Nat) (ops : Array Oper) : Option (List AOper) :=
  match trOpers P W ops ops.toList with
  | some al0 =>
    let al := turnLoads ops al0
    let σ := planGo ops al ops.size (Array.replicate ops.size false)
    if al.length = al0.length ∧ σ.length = ops.size ∧ planOk ops al (Array.replicate ops.size false) σ = true then some (pick_ al σ) else none
  | none => none
theorem turnLoads_get (ops : Array Oper) (al : List AOper) (i : Nat) (o : AOper) (h : al[i]? = some o) : ∃ o', (turnLoads ops al)[i]? = some o' ∧ (o' = o ∨ o' = turnC o) := by
  have hlt : i < al.length := (List.getElem?_eq_some_iff.1 h).1
  unfold turnLoads
  rw [List.getElem?_map, List.getElem?_range hlt]
  simp only [Option.map_some, h, Option.getD_some]
  split
  · exact ⟨_, rfl, .inr rfl⟩
  · exact ⟨_, rfl, .inl rfl⟩
theorem draw_soundF {W : List Nat} {ops : Array Oper} {al : List AOper} {id : Nat} {Q : List AV → AHeap → Prop} {Qc : Exit → Act → World → Prop} (hm : P.follows .mixedOrders = true) (h : trDrawF P W ops = some al) (hS : Sim g w H) (hR : RepAct g w act a) (hk : aops (ACalls P) al a H Q)
    (hn : ∀ a' H' g' w' act', Q a' H' → Ext g w g' w' → Sim g' w' H' → RepAct g' w' act' a' → Qc .normal act' w') : (Code.region id ops true).wp P Qc act w := by
  unfold trDrawF at h
  split at h <;> (try (cases h; done))
  rename_i al0 h0
  simp only at h
  split at h <;> (try (cases h; done))
  rename_i hc
  obtain ⟨c1, c2, c3⟩ := hc
  obtain rfl := Option.some.inj h
  obtain ⟨hl, hget⟩ := trOpers_get _ _ h0
  have hsz : ops.size = (turnLoads ops al0).length := by rw [c1, ← hl]; simp
  obtain ⟨hE, hS'⟩ := hS.heap (w' := { w with drawn := w.drawn + 1 }) rfl rfl rfl rfl
  have h1 := plan_sound (calls_mono (P := P)) hsz _ _ a H c3 hk
  rw [c2] at h1
  refine wp_region_any hm (aAny_sound (W := W) (fun i o ho => ?_) ops.size _ g _ H act a hS' (hR.ext hE) h1 (fun a2 H2 g2 w2 act2 q2 hE2 => hn a2 H2 g2 w2 act2 q2 (hE.trans hE2)))
  obtain ⟨ao, hao, htr⟩ := hget i o (by simpa using ho)
  obtain ⟨ao', h2, h3⟩ := turnLoads_get ops al0 i ao hao
  exact ⟨ao, ao', h2, htr, h3⟩
/-! ### two operations of which each may come first -/
def planStep (ops : Array Oper) (al : List AOper) (listed : Array Bool) (i : Nat) : Bool := match al[i]? with
  | some oi => if oi.op.cls ≤ 1 then ((List.range al.length).all fun j => j == i || listed.getD j true || waitsFor ops j i || (match al[j]? with | some oj => pairOk oi oj | none => true)) || depsOk ops al oi listed i (deps ops listed i)
      else Region.ready .any ops listed == [i]
  | none => false
def planPre (ops : Array Oper) (al : List AOper) : Nat → Array Bool → List Nat × Array Bool
  | 0, listed => ([], listed)
  | fuel + 1, listed =>
    match (Region.ready .any ops listed).find? (planStep ops al listed) with
    | some i => let p := planPre ops al fuel (listed.setIfInBounds i true); (i :: p.1, p.2)
    | none => ([], listed)
/-- Reads of marked cells, by slot. -/
def markedX (al : List AOper) (ms : List Nat) : AX → Bool
  | .tmp t => ms.contains t || al.any (fun o => o.dst == some t && (match o.op with | .q (.fieldAddr _ (.tmp s)) => ms.contains s | _ => false))
  | _ => false
def turnLoadsM (ms : List Nat) (al : List AOper) : List AOper := al.map fun o => match o.op with
  | .q (.load _ _ x) => if markedX al ms x then turnC o else o
  | _ => o
theorem turnLoadsM_get (ms : List Nat) (al : List AOper) (i : Nat) (o : AOper) (h : al[i]? = some o) : ∃ o', (turnLoadsM ms al)[i]? = some o' ∧ (o' = o ∨ o' = turnC o) := by
  unfold turnLoadsM
  rw [List.getElem?_map, h]
  simp only [Option.map_some]
  refine ⟨_, rfl, ?_⟩
  split
  · split
    · exact .inr rfl
    · exact .inl rfl
  · exact .inl rfl
def forkE (ops : Array Oper) (al : List AOper) (i j : Nat) (σ1 σ2 : List Nat) (listed : Array Bool) : Bool :=
  Region.ready .any ops listed == [i, j] && planOk ops al (listed.setIfInBounds i true) σ1 && planOk ops al (listed.setIfInBounds j true) σ2
def trFork (P : Program) (W : List Nat) (ms : List Nat) (ops : Array Oper) : Option (List AOper × List AOper × List AOper) :=
  match trOpers P W ops ops.toList with
  | some al0 =>
    let al := if ms.isEmpty then turnAll ops al0 else turnLoadsM ms al0
    let p := planPre ops al ops.size (Array.replicate ops.size false)
    match Region.ready .any ops p.2 with
    | [i, j] =>
      let σ1 := planGo ops al ops.size (p.2.setIfInBounds i true)
      let σ2 := planGo ops al ops.size (p.2.setIfInBounds j true)
      if al.length = al0.length ∧ σ1.length + 1 + p.1.length = ops.size ∧ σ2.length = σ1.length ∧ planOkE (forkE ops al i j σ1 σ2) ops al (Array.replicate ops.size false) p.1 = true then some (pick_ al p.1, pick_ al (i :: σ1), pick_ al (j :: σ2)) else none
    | _ => none
  | none => none
theorem fork_base {C : (Nat → List AV → AHeap → (AV → AHeap → Prop) → Prop)} (hC : Mono C) {ops : Array Oper} {al : List AOper} {Q : List AV → AHeap → Prop} (hl : ops.size = al.length) {i j : Nat} {σ1 σ2 : List Nat} (h2 : σ2.length = σ1.length) (listed : Array Bool) (a : List AV) (H : AHeap) (hE : forkE ops al i j σ1 σ2 listed = true)
    (h : aops C (pick_ al (i :: σ1)) a H Q ∧ aops C (pick_ al (j :: σ2)) a H Q) : aAny C ops al Q (σ1.length + 1) listed a H := by
  unfold forkE at hE
  rw [Bool.and_eq_true, Bool.and_eq_true, beq_iff_eq] at hE
  obtain ⟨⟨e1, e2⟩, e3⟩ := hE
  have one : ∀ (k : Nat) (σ : List Nat), k ∈ Region.ready .any ops listed → σ.length = σ1.length → planOk ops al (listed.setIfInBounds k true) σ = true → aops C (pick_ al (k :: σ)) a H Q → stepAt C al k (aAny C ops al Q σ1.length (listed.setIfInBounds k true)) a H := by
    intro k σ hk hs hp hh
    obtain ⟨_, o, ho, _⟩ := mem_ready.1 hk
    have hlt : k < al.length := by
      rw [← hl]
      exact (Array.getElem?_eq_some_iff.1 ho).1
    have hal : al[k]? = some al[k] := List.getElem?_eq_getElem hlt
    have hpk : pick_ al (k :: σ) = al[k] :: pick_ al σ := by simp [pick_, hal]
    rw [hpk] at hh
    unfold stepAt
    rw [hal]
    rw [← hs]
    exact astep_mono hC (fun a' H' q => plan_sound hC hl σ _ a' H' hp q) hh
  refine ⟨fun hh => (by rw [hh] at e1; cases e1), fun k hk => ?_⟩
  have hk2 := hk
  rw [e1] at hk2
  rcases List.mem_cons.1 hk2 with rfl | hk3
  · exact one _ σ1 hk rfl e2 h.1
  · obtain rfl := List.mem_singleton.1 hk3
    exact one _ σ2 hk h2 e3 h.2
theorem fork_sound {W : List Nat} {ms : List Nat} {ops : Array Oper} {p r1 r2 : List AOper} {id : Nat} {Q : List AV → AHeap → Prop} {Qc : Exit → Act → World → Prop} (hm : P.follows .mixedOrders = true) (h : trFork P W ms ops = some (p, r1, r2)) (hS : Sim g w H) (hR : RepAct g w act a)
    (hk : aops (ACalls P) p a H (fun a H => aops (ACalls P) r1 a H Q ∧ aops (ACalls P) r2 a H Q))
    (hn : ∀ a' H' g' w' act', Q a' H' → Ext g w g' w' → Sim g' w' H' → RepAct g' w' act' a' → Qc .normal act' w') : (Code.region id ops true).wp P Qc act w := by
  unfold trFork at h
  split at h <;> (try (cases h; done))
  rename_i al0 h0
  simp only at h
  generalize hal : (if ms.isEmpty = true then turnAll ops al0 else turnLoadsM ms al0) = al at h
  split at h <;> (try (cases h; done))
  rename_i i j hr
  split at h <;> (try (cases h; done))
  rename_i hc
  obtain ⟨c1, c2, c3, c4⟩ := hc
  have h := Option.some.inj h
  simp only [Prod.mk.injEq] at h
  obtain ⟨rfl, rfl, rfl⟩ := h
  obtain ⟨hl, hget⟩ := trOpers_get _ _ h0
  have hsz : ops.size = al.length := by rw [c1, ← hl]; simp
  obtain ⟨hE, hS'⟩ := hS.heap (w' := { w with drawn := w.drawn + 1 }) rfl rfl rfl rfl
  have h1 := plan_soundE (calls_mono (P := P)) hsz (fun listed a H hE h => fork_base (calls_mono (P := P)) hsz c3 listed a H hE h) _ _ a H c4 hk
  rw [c2] at h1
  refine wp_region_any hm (aAny_sound (W := W) (fun i o ho => ?_) ops.size _ g _ H act a hS' (hR.ext hE) h1 (fun a2 H2 g2 w2 act2 q2 hE2 => hn a2 H2 g2 w2 act2 q2 (hE.trans hE2)))
  obtain ⟨ao, hao, htr⟩ := hget i o (by simpa using ho)
  cases hms : ms.isEmpty with
  | true =>
    rw [hms, if_pos rfl] at hal
    subst hal
    obtain ⟨ao', h2, h3⟩ := turnAll_get ops al0 i ao hao
    exact ⟨ao, ao', h2, htr, h3⟩
  | false =>
    rw [hms, if_neg Bool.false_ne_true] at hal
    subst hal
    obtain ⟨ao', h2, h3⟩ := turnLoadsM_get ms al0 i ao hao
    exact ⟨ao, ao', h2, htr, h3⟩
end
end Go.Proofs.YtmdgjfadbhenjaaGreatDoor.AL
/- Regions of open order in which a variable is made and then written to: told as one at the write. -/
set_option linter.unusedVariables false
set_option linter.unusedSimpArgs false
namespace Go.Proofs.YtmdgjfadbhenjaaGreatDoor.AL
open Go
/-- Operation i makes a variable (slot d, elements of type e, n cells), operation j writes v to it. -/
structure AS where
  i : Nat
  j : Nat
  d : Nat
  e : TypeId
  n : Nat
  v : AX
  t : TypeId
def findAS (P : Program) (ops : Array Oper) (i j : Nat) : Option AS :=
  match ops[i]?, ops[j]? with
  | some oi, some oj => match oi.dst, oi.op, oi.guard, oj.dst, oj.op, oj.guard with
    | some d, .alloc e, none, none, .store t (.tmp d') v, none => match trX v, tSize P t, tZero P e with
      | some x, some n, some zs => if d' = d ∧ AX.is d x = false ∧ zs.length = n ∧ waitsFor ops j i = true then some ⟨i, j, d, e, n, x, t⟩ else none
      | _, _, _ => none
    | _, _, _, _, _, _ => none
  | _, _ => none
def topOp (p : AS) : AOper := ⟨some p.d, .q (.move (.const .top)), none⟩
def putOp (p : AS) : AOper := ⟨some p.d, .s (.put p.e p.n p.v), none⟩
def allAS (P : Program) (ops : Array Oper) : List AS := (List.range ops.size).filterMap fun i => (List.range ops.size).findSome? fun j => findAS P ops i j
def asOk (ops : Array Oper) (L : List AS) : Bool := L.all fun p => (L.all fun q => ((q.i == p.i && q.j == p.j && q.n == p.n) || (q.i != p.i && q.j != p.j && q.d != p.d))) && (List.range ops.size).all fun k => k == p.i || (match ops[k]? with | some o => o.dst != some p.d | none => true)
def withAS (L : List AS) (al : List AOper) : List AOper := (List.range al.length).map fun k =>
  match L.find? fun p => p.i == k with
  | some p => topOp p
  | none => match L.find? fun p => p.j == k with
    | some p => putOp p
    | none => (al[k]?).getD ⟨none, .q (.num 0), none⟩
def turnBy (F : Bool) (ops : Array Oper) (al : List AOper) : List AOper := if F then turnLoads ops al else turnAll ops al
theorem turnBy_get (F : Bool) (ops : Array Oper) (al : List AOper) (i : Nat) (o : AOper) (h : al[i]? = some o) : ∃ o', (turnBy F ops al)[i]? = some o' ∧ (o' = o ∨ o' = turnC o) := by
  cases F with
  | true => exact turnLoads_get ops al i o h
  | false => exact turnAll_get ops al i o h
def trDraw2 (P : Program) (W : List Nat) (F : Bool) (ops : Array Oper) : Option (List AOper) :=
  match trOpers P W ops ops.toList with
  | some al0 =>
    let L := allAS P ops
    let al := turnBy F ops (withAS L al0)
    let σ := planGo ops al ops.size (Array.replicate ops.size false)
    if asOk ops L = true ∧ al.length = al0.length ∧ σ.length = ops.size ∧ planOk ops al (Array.replicate ops.size false) σ = true then some (pick_ al σ) else none
  | none => none
section
variable {P : Program} {g : Ghost} {w : World} {H : AHeap} {act : Act} {a : List AV}
structure IsAS (P : Program) (ops : Array Oper) (p : AS) : Prop where
  two : ∃ oi oj v zs, ops[p.i]? = some oi ∧ ops[p.j]? = some oj ∧ oi.dst = some p.d ∧ oi.op = .alloc p.e ∧ oi.guard = none ∧ oj.dst = none ∧ oj.op = .store p.t (.tmp p.d) v ∧ oj.guard = none ∧
    trX v = some p.v ∧ tSize P p.t = some p.n ∧ tZero P p.e = some zs ∧ zs.length = p.n ∧ AX.is p.d p.v = false ∧ waitsFor ops p.j p.i = true
theorem findAS_spec {ops : Array Oper} {i j : Nat} {p : AS} (h : findAS P ops i j = some p) : p.i = i ∧ p.j = j ∧ IsAS P ops p := by
  unfold findAS at h
  split at h <;> (try (cases h; done))
  rename_i oi oj hi hj
  split at h <;> (try (cases h; done))
  rename_i d e t d' v h1 h2 h3 h4 h5 h6
  split at h <;> (try (cases h; done))
  rename_i x n zs hx hn hz
  split at h <;> (try (cases h; done))
  rename_i hc
  obtain ⟨rfl, c1, c2, c3⟩ := hc
  obtain rfl := Option.some.inj h
  exact ⟨rfl, rfl, ⟨oi, oj, v, zs, hi, hj, h1, h2, h3, h4, h5, h6, hx, hn, hz, c2, c1, c3⟩⟩
theorem allAS_spec {ops : Array Oper} {p : AS} (h : p ∈ allAS P ops) : IsAS P ops p := by
  unfold allAS at h
  obtain ⟨i, _, hi⟩ := List.mem_filterMap.1 h
  obtain ⟨j, _, hj⟩ := List.exists_of_findSome?_eq_some hi
  exact (findAS_spec hj).2.2
/-- What is open: variables that are made, and not written to yet. -/
def Pend (P : Program) (L : List AS) (w0 : World) (listed : Array Bool) (g : Ghost) (w : World) (act : Act) (β : Nat → Nat) : Prop :=
  (∀ p ∈ L, listed.getD p.i true = true → listed.getD p.j true = false → w0.heap.size ≤ β p.d ∧ ¬ Known g (β p.d) ∧ act.tmps[p.d]? = some (.pointer (some ⟨β p.d, 0, none⟩)) ∧ ∃ zc : Array Value, w.heap[β p.d]? = some (.cells zc p.e (0, 0)) ∧ zc.size = p.n) ∧
  (∀ p ∈ L, ∀ q ∈ L, listed.getD p.i true = true → listed.getD p.j true = false → listed.getD q.i true = true → listed.getD q.j true = false → p.d ≠ q.d → β p.d ≠ β q.d)
/-- A block more, of which nothing is told. -/
theorem more_block {o : Obj} {w' : World} (hS : Sim g w H) (hh : w'.heap = w.heap.push o) (h1 : w'.os = w.os) (h2 : w'.tape = w.tape) (h3 : w'.output = w.output) : Ext g w g w' ∧ Sim g w' H := by
  have hE : Ext g w g w' := ⟨fun _ _ _ h => h, fun _ h => h, fun b hb => heap_push_old o hh (hS.zlt b hb), fun b s h => shape_push o hh h, by rw [hh]; simp, h1, h2, h3, fun _ _ h => h, fun b hb _ => heap_push_old o hh hb⟩
  refine ⟨hE, ⟨fun b hb => ?_, fun id gen b hb => ?_, fun id o ho => (hS.live id o ho).ext hE (fun b hb => heap_push_old _ hh (hS.mlt _ _ _ hb).2), hS.inj, hS.nz, hS.gen, hS.var.ext hE⟩⟩
  · have := hS.zlt b hb
    rw [hh]; simp; omega
  · have := hS.mlt _ _ _ hb
    rw [hh]; simp; omega
/-- A block that was there, of which nothing was told, becomes a row. -/
theorem sim_adopt {e : TypeId} {b : Nat} {cur : Array Value} {ys : List AV} {w' : World} {zc : Array Value} (hS : Sim g w H) (hb : b < w.heap.size) (hk : ¬ Known g b) (hz : w.heap[b]? = some (.cells zc e (0, 0))) (hsz : cur.size = zc.size) (hh : w'.heap = w.heap.setIfInBounds b (.cells cur e (0, 0))) (hr : Reps g w cur ys) :
    Grow g w (g.add H.next 0 b) w' ∧ Sim (g.add H.next 0 b) w' (H.push (.row e 0 ys)) ∧ (g.add H.next 0 b).m H.next 0 = some b := by
  have hm : (g.add H.next 0 b).m H.next 0 = some b := by simp [Ghost.add]
  have hoth : ∀ k, k ≠ b → w'.heap[k]? = w.heap[k]? := by
    intro k hk
    rw [hh, Array.getElem?_setIfInBounds_ne (Ne.symm hk)]
  have hnew : w'.heap[b]? = some (.cells cur e (0, 0)) := by
    rw [hh, Array.getElem?_setIfInBounds_self_of_lt hb]
  have hz2 : ∀ k, g.Z k → k ≠ b := fun k h e => hk (.inl (e ▸ h))
  have hm2 : ∀ id gen k, g.m id gen = some k → k ≠ b := fun id gen k h e => hk (.inr ⟨id, gen, e ▸ h⟩)
  have hG : Grow g w (g.add H.next 0 b) w' := by
    refine ⟨fun i k c h => ?_, fun _ h => h, fun k h => hoth k (hz2 k h), fun k s h => ?_⟩
    · simp only [Ghost.add]
      split
      · rename_i hc
        rw [hc.1, hc.2, m_new hS 0] at h; cases h
      · exact h
    · unfold World.shape? at h ⊢
      by_cases hkb : k = b
      · subst hkb
        rw [hz] at h
        rw [hnew]
        simp only at h ⊢
        rw [hsz]
        exact h
      · rw [hoth k hkb]; exact h
  have hold : ∀ id gen c, (g.add H.next 0 b).m id gen = some c → (id = H.next ∧ gen = 0 ∧ c = b) ∨ g.m id gen = some c := by
    intro id gen c h
    simp only [Ghost.add] at h
    split at h
    · rename_i hc; exact .inl ⟨hc.1, hc.2, (Option.some.inj h).symm⟩
    · exact .inr h
  have hlive : ∀ id o, H.get id = some o → ∀ c, (g.add H.next 0 b).m id o.gen = some c → g.m id o.gen = some c := by
    intro id o ho c hc
    rcases hold _ _ _ hc with ⟨h, _⟩ | h
    · have := H.lt ho; omega
    · exact h
  have hwsz : w'.heap.size = w.heap.size := by rw [hh]; simp
  have hcase : ∀ id o, (H.push (.row e 0 ys)).get id = some o → (id = H.next ∧ o = .row e 0 ys) ∨ (id ≠ H.next ∧ H.get id = some o) := by
    intro id o h
    rw [push_get] at h
    split at h
    · rename_i hid; exact .inl ⟨hid, (Option.some.inj h).symm⟩
    · rename_i hid; exact .inr ⟨hid, h⟩
  refine ⟨hG, ⟨fun c hc => ?_, fun id gen c hc => ?_, fun id o ho => ?_, fun id id' o o' c ho ho' hc hc' => ?_, fun id o c ho hc => ?_, fun id o gen c ho hc => ?_, hS.var.grow hG⟩, hm⟩
  · rw [hwsz]; exact hS.zlt c hc
  · rw [hwsz, push_next]
    rcases hold _ _ _ hc with ⟨rfl, rfl, rfl⟩ | h
    · exact ⟨by omega, hb⟩
    · have := hS.mlt _ _ _ h; omega
  · rcases hcase _ _ ho with ⟨rfl, rfl⟩ | ⟨hid, h⟩
    · refine ⟨b, cur, 0, 0, hm, hnew, fun _ _ => by omega, by simp [hr.1], fun i y hy => ?_⟩
      obtain ⟨u, hu, hrep⟩ := hr.get hy
      exact ⟨u, hu, hrep.grow hG⟩
    · exact (hS.live id o h).grow hG (fun c hc => hoth c (hm2 _ _ _ hc))
  · rcases hcase _ _ ho with ⟨rfl, rfl⟩ | ⟨hid, h⟩
    · rcases hcase _ _ ho' with ⟨rfl, rfl⟩ | ⟨hid', h'⟩
      · rfl
      · simp only [AObj.gen] at hc
        rw [hm] at hc
        obtain rfl := Option.some.inj hc
        exact absurd rfl (hm2 _ _ _ (hlive _ _ h' _ hc'))
    · rcases hcase _ _ ho' with ⟨rfl, rfl⟩ | ⟨hid', h'⟩
      · simp only [AObj.gen] at hc'
        rw [hm] at hc'
        obtain rfl := Option.some.inj hc'
        exact absurd rfl (hm2 _ _ _ (hlive _ _ h _ hc))
      · exact hS.inj _ _ _ _ c h h' (hlive _ _ h _ hc) (hlive _ _ h' _ hc')
  · rcases hcase _ _ ho with ⟨rfl, rfl⟩ | ⟨hid, h⟩
    · simp only [AObj.gen] at hc
      rw [hm] at hc
      obtain rfl := Option.some.inj hc
      exact fun hz' => hk (.inl hz')
    · exact hS.nz id o c h (hlive _ _ h _ hc)
  · rcases hcase _ _ ho with ⟨rfl, rfl⟩ | ⟨hid, h⟩
    · rcases hold _ _ _ hc with ⟨_, h, _⟩ | h
      · simp [AObj.gen, h]
      · rw [m_new hS gen] at h; cases h
    · rcases hold _ _ _ hc with ⟨h2, _⟩ | h2
      · have := H.lt h; omega
      · exact hS.gen id o gen c h h2
theorem listed_set {listed : Array Bool} {k i : Nat} (d : Bool) (h : i ≠ k) : (listed.setIfInBounds k true).getD i d = listed.getD i d := by
  rw [Array.getD_eq_getD_getElem?, Array.getD_eq_getD_getElem?, Array.getElem?_setIfInBounds_ne (Ne.symm h)]
theorem asOk_spec {ops : Array Oper} {L : List AS} (h : asOk ops L = true) : (∀ p ∈ L, ∀ q ∈ L, (q.i = p.i ∧ q.j = p.j ∧ q.n = p.n) ∨ (q.i ≠ p.i ∧ q.j ≠ p.j ∧ q.d ≠ p.d)) ∧ ∀ p ∈ L, ∀ (k : Nat) (o : Oper), ops[k]? = some o → k ≠ p.i → o.dst ≠ some p.d := by
  unfold asOk at h
  rw [List.all_eq_true] at h
  refine ⟨fun p hp q hq => ?_, fun p hp k o ho hk => ?_⟩
  · have := h p hp
    rw [Bool.and_eq_true, List.all_eq_true] at this
    have := this.1 q hq
    simpa [and_assoc] using this
  · have := h p hp
    rw [Bool.and_eq_true, List.all_eq_true, List.all_eq_true] at this
    have hlt : k < ops.size := (Array.getElem?_eq_some_iff.1 ho).1
    have := this.2 k (List.mem_range.2 hlt)
    rw [ho] at this
    simpa [hk] using this
theorem aAny_sound2 {W : List Nat} {ops : Array Oper} {al : List AOper} {L : List AS} {Q : List AV → AHeap → Prop} {Qc : Exit → Act → World → Prop} (hL : ∀ p ∈ L, IsAS P ops p) (hok : asOk ops L = true)
    (hal : ∀ (i : Nat) (o : Oper), ops[i]? = some o → ∃ ao', al[i]? = some ao' ∧ ((∃ p ∈ L, p.i = i ∧ ao' = topOp p) ∨ (∃ p ∈ L, p.j = i ∧ ao' = putOp p) ∨ ((∀ p ∈ L, p.i ≠ i ∧ p.j ≠ i) ∧ ∃ ao, trOper P W ops o = some ao ∧ (ao' = ao ∨ ao' = turnC ao))))
    {g0 : Ghost} {w0 : World} {H0 : AHeap} (hS0 : Sim g0 w0 H0) :
    ∀ (fuel : Nat) (listed : Array Bool) (g : Ghost) (w : World) (H : AHeap) (act : Act) (a : List AV) (β : Nat → Nat), Ext g0 w0 g w → Sim g w H → RepAct g w act a → Pend P L w0 listed g w act β → (∀ p ∈ L, p.d < act.tmps.size) → aAny (ACalls P) ops al Q fuel listed a H →
      (∀ a' H' g' w' act', Q a' H' → Ext g0 w0 g' w' → Sim g' w' H' → RepAct g' w' act' a' → Qc .normal act' w') → wpAny P .any ops Qc fuel listed act w
  | 0, listed, g, w, H, act, a, β, hE, hS, hR, hP, hD, h, hn => ⟨h.1, hn a H g w act h.2 hE hS hR⟩
  | fuel + 1, listed, g, w, H, act, a, β, hE, hS, hR, hP, hD, h, hn => by
    refine ⟨fun hh => hn a H g w act (h.1 hh) hE hS hR, fun k hk => ?_⟩
    have h1 := h.2 k hk
    obtain ⟨hnl, o, ho, haft⟩ := mem_ready.1 hk
    obtain ⟨ok1, ok2⟩ := asOk_spec hok
    have hklt : k < ops.size := (Array.getElem?_eq_some_iff.1 ho).1
    have hkl : k < listed.size := by
      rcases Nat.lt_or_ge k listed.size with h2 | h2
      · exact h2
      · rw [Array.getD_eq_getD_getElem?, Array.getElem?_eq_none h2] at hnl; cases hnl
    have hset : (listed.setIfInBounds k true).getD k true = true := by
      rw [Array.getD_eq_getD_getElem?, Array.getElem?_setIfInBounds_self_of_lt hkl]; rfl
    have hlt : ∀ {b : Nat} {x : Obj}, w.heap[b]? = some x → b < w.heap.size := fun hh => (Array.getElem?_eq_some_iff.1 hh).1
    obtain ⟨ao', hao, hkind⟩ := hal k o ho
    unfold stepAt at h1
    rw [hao] at h1
    unfold wpOp
    rw [ho]
    rcases hkind with ⟨p, hp, hpi, rfl⟩ | ⟨p, hp, hpj, rfl⟩ | ⟨hno, ao, htr, hturn⟩
    · obtain ⟨oi, oj, v, zs, e1, e2, e3, e4, e5, e6, e7, e8, e9, e10, e11, e12, e13, e14⟩ := (hL p hp).two
      subst hpi
      rw [ho] at e1
      obtain rfl := Option.some.inj e1
      have hw : Region.wanted o (yielded ops act.tmps) = true := by simp [Region.wanted, e5]
      simp only [hw, if_true]
      left
      obtain ⟨i, z, hi, hz1, hz2⟩ := zero_spec e11
      have hzc : z.cells.size = p.n := by
        have := (trV_reps (g := g) (w := w) _ _ hz2).1
        simp at this
        omega
      unfold Oper.wp
      have he : (execOp act.eval o).run P w = .ok (.value (.pointer (some ⟨w.heap.size, 0, none⟩))) (w.alloc (.cells z.cells p.e)) := by
        simp [execOp, e4, Instr.alloc, zeroValue, typeInfo, hi, hz1, newVar, newRow]
      rw [he, Oper.upon_value]
      have hh : (w.alloc (.cells z.cells p.e)).heap = w.heap.push (.cells z.cells p.e (0, 0)) := by simp [World.alloc, -World.alloc_eq]
      obtain ⟨hE1, hS1⟩ := more_block hS hh rfl rfl rfl
      have h2 : aAny (ACalls P) ops al Q fuel (listed.setIfInBounds p.i true) (aput a (some p.d) .top) H := by
        obtain ⟨y, hy, h3⟩ := h1
        obtain rfl := Option.some.inj hy
        exact h3
      rw [e3]
      have hnij : ∀ q ∈ L, q.j ≠ p.i := by
        intro q hq hqe
        obtain ⟨_, oj', _, _, _, f2, _, _, _, _, f7, _⟩ := (hL q hq).two
        rw [hqe, ho] at f2
        obtain rfl := Option.some.inj f2
        rw [e4] at f7
        cases f7
      refine aAny_sound2 hL hok hal hS0 fuel _ g _ H _ _ (fun x => if x = p.d then w.heap.size else β x) (hE.trans hE1) hS1 (hR.put hE1 (.top _) (some p.d)) ⟨fun q hq q1 q2 => ?_, fun q hq q' hq' r1 r2 r3 r4 r5 => ?_⟩ (fun q hq => by simpa [Act.put] using hD q hq) h2 hn
      · rcases ok1 p hp q hq with ⟨f1, f2, f3⟩ | ⟨f1, f2, f3⟩
        · obtain ⟨oi', _, _, _, k1, _, k3, k4, _⟩ := (hL q hq).two
          rw [f1, ho] at k1
          obtain rfl := Option.some.inj k1
          rw [e3] at k3
          have hd : q.d = p.d := (Option.some.inj k3).symm
          rw [e4] at k4
          have hee : q.e = p.e := by injection k4 with k4; exact k4.symm
          dsimp only
          rw [hd, if_pos rfl]
          refine ⟨hE.size, fun hk' => ?_, ?_, z.cells, ?_, by rw [hzc, f3]⟩
          · rcases hk' with hk' | ⟨id, gen, hk'⟩
            · have := hS.zlt _ hk'; omega
            · have := (hS.mlt _ _ _ hk').2; omega
          · simp only [Act.put]
            exact Array.getElem?_setIfInBounds_self_of_lt (hD p hp)
          · rw [hh, hee]; simp
        · rw [listed_set _ f1] at q1
          rw [listed_set _ (hnij q hq)] at q2
          obtain ⟨b1, b2, b3, zc, b4, b5⟩ := hP.1 q hq q1 q2
          dsimp only
          rw [if_neg f3]
          refine ⟨b1, b2, ?_, zc, ?_, b5⟩
          · rw [put_other _ _ _ _ (fun e => f3 (Option.some.inj e).symm)]
            exact b3
          · rw [heap_push_old _ hh (hlt b4)]
            exact b4
      · have old : ∀ q ∈ L, q.d ≠ p.d → (listed.setIfInBounds p.i true).getD q.i true = true → (listed.setIfInBounds p.i true).getD q.j true = false → listed.getD q.i true = true ∧ listed.getD q.j true = false ∧ β q.d < w.heap.size := by
          intro q hq hqd s1 s2
          rcases ok1 p hp q hq with ⟨f1, f2, f3⟩ | ⟨f1, f2, f3⟩
          · obtain ⟨oi', _, _, _, k1, _, k3, _⟩ := (hL q hq).two
            rw [f1, ho] at k1
            obtain rfl := Option.some.inj k1
            rw [e3] at k3
            exact absurd (Option.some.inj k3).symm hqd
          · rw [listed_set _ f1] at s1
            rw [listed_set _ (hnij q hq)] at s2
            obtain ⟨_, _, _, _, b4, _⟩ := hP.1 q hq s1 s2
            exact ⟨s1, s2, hlt b4⟩
        by_cases c1 : q.d = p.d
        · by_cases c2 : q'.d = p.d
          · exact absurd (c1.trans c2.symm) r5
          · obtain ⟨_, _, b⟩ := old q' hq' c2 r3 r4
            dsimp only
            rw [c1, if_pos rfl, if_neg c2]
            omega
        · obtain ⟨s1, s2, b⟩ := old q hq c1 r1 r2
          by_cases c2 : q'.d = p.d
          · dsimp only
            rw [if_neg c1, c2, if_pos rfl]
            omega
          · obtain ⟨s3, s4, _⟩ := old q' hq' c2 r3 r4
            dsimp only
            rw [if_neg c1, if_neg c2]
            exact hP.2 q hq q' hq' s1 s2 s3 s4 r5
    · obtain ⟨oi, oj, v, zs, e1, e2, e3, e4, e5, e6, e7, e8, e9, e10, e11, e12, e13, e14⟩ := (hL p hp).two
      subst hpj
      rw [ho] at e2
      obtain rfl := Option.some.inj e2
      have hw : Region.wanted o (yielded ops act.tmps) = true := by simp [Region.wanted, e8]
      simp only [hw, if_true]
      left
      have hli : listed.getD p.i true = true := by
        unfold waitsFor at e14
        rw [ho] at e14
        obtain ⟨ed, hed, hb⟩ := Array.any_eq_true'.1 e14
        rw [Bool.and_eq_true] at hb
        have := haft ed hed hb.1
        have he : ed.on = p.i := by simpa using hb.2
        rw [he, Array.getD_eq_getD_getElem?] at this
        rw [Array.getD_eq_getD_getElem?]
        cases hq : listed[p.i]? with
        | none => rw [hq] at this; cases this
        | some c => rw [hq] at this; exact this
      obtain ⟨b1, b2, b3, zc, b4, b5⟩ := hP.1 p hp hli hnl
      generalize hb0 : β p.d = b at b1 b2 b3 b4
      obtain ⟨⟨hf, hone, hlen⟩, h3⟩ := h1
      have hv : Rep g w (act.eval v) (p.v.ev a) := trX_rep hR e9
      have hr := hv.cells (by intro h; rw [h] at hf; simp [AV.flat, AV.one] at hf)
      have hvs : (act.eval v).cells.size = p.n := by rw [hr.1, hlen]
      have hones : ∀ u ∈ (act.eval v).cells.toList, u.oneCell' = true := by
        intro u hu
        obtain ⟨i, hi⟩ := List.getElem?_of_mem hu
        have hil : i < (p.v.ev a).cells.length := by rw [← hr.1]; have := (List.getElem?_eq_some_iff.1 hi).1; simpa using this
        have h2 := hr.2 i u _ (by simpa using hi) (List.getElem?_eq_getElem hil)
        exact one_one h2 (by rw [List.all_eq_true] at hone; exact hone _ (List.getElem_mem _))
      obtain ⟨w', cur', r1, r2, r3, r4, r5, r6, r7⟩ := run_stores (P := P) (act.eval v).cells.toList 0 b 0 w zc p.e 0 0 b4 (by simp; omega) (fun _ _ => by omega) hones
      have hrc : Reps g w cur' (p.v.ev a).cells := by
        refine ⟨by rw [r6, b5, ← hlen], fun i u y hu hy => ?_⟩
        have hi : i < (p.v.ev a).cells.length := (List.getElem?_eq_some_iff.1 hy).1
        rw [r7 i, if_pos (by simp; rw [hvs]; omega)] at hu
        exact hr.2 i u y (by simpa using hu) hy
      obtain ⟨hG, hS', hm⟩ := sim_adopt hS (hlt b4) b2 b4 r6 r2 hrc
      have hpt : act.eval (.tmp p.d) = .pointer (some ⟨b, 0, none⟩) := by
        show act.tmps.getD p.d undef = _
        rw [Array.getD_eq_getD_getElem?, b3]; rfl
      unfold Oper.wp
      have he : (execOp act.eval o).run P w = .ok .skip w' := by
        simp [execOp, e7, hpt, Instr.storeAt, Instr.sureAddr, storeVar, run_sizeOf e10, hvs, r1]
      rw [he]
      show wpAny P .any ops Qc fuel (listed.setIfInBounds p.j true) (act.put o.dst undef) w'
      rw [e6]
      have hoth : ∀ k, k ≠ b → w'.heap[k]? = w.heap[k]? := by
        intro k hk
        rw [r2, Array.getElem?_setIfInBounds_ne (Ne.symm hk)]
      have hkn : ∀ k, Known (g.add H.next 0 b) k → k = b ∨ Known g k := by
        intro k hk
        rcases hk with hk | ⟨id, gen, hk⟩
        · exact .inr (.inl hk)
        · simp only [Ghost.add] at hk
          split at hk
          · exact .inl (Option.some.inj hk).symm
          · exact .inr (.inr ⟨id, gen, hk⟩)
      have hE' : Ext g0 w0 (g.add H.next 0 b) w' := by
        refine ⟨fun id gen c hc => hG.m _ _ _ (hE.m _ _ _ hc), fun c hc => hG.z _ (hE.z _ hc), fun c hc => ?_, fun c s hc => hG.shape _ _ (hE.shape _ _ hc), ?_, r3.trans hE.os, r4.trans hE.tape, r5.trans hE.output, fun c hc hk => ?_, fun c hc hk => ?_⟩
        · have := hS0.zlt _ hc
          rw [hoth c (by omega)]
          exact hE.same c hc
        · rw [r2]; simp; exact hE.size
        · rcases hkn c hk with rfl | hk
          · omega
          · exact hE.known c hc hk
        · rw [hoth c (by omega)]
          exact hE.other c hc hk
      have hR' : RepAct (g.add H.next 0 b) w' act (aput a (some p.d) (.ptr H.next 0 0)) := by
        have hR1 := hR.grow hG
        refine ⟨hR1.defers, by simp [aput, hR1.size], fun i u y hu hy => ?_⟩
        simp only [aput] at hy
        by_cases hi : p.d = i
        · subst hi
          rw [b3] at hu
          obtain rfl := Option.some.inj hu
          rw [List.getElem?_set_self (by rw [← hR1.size]; exact hD p hp)] at hy
          obtain rfl := Option.some.inj hy
          exact .ptr _ _ _ _ hm
        · rw [List.getElem?_set_ne hi] at hy
          exact hR1.rep i u y hu hy
      have hnij : ∀ q ∈ L, q.i ≠ p.j := by
        intro q hq hqe
        obtain ⟨oi', _, _, _, f1, _, _, f4, _⟩ := (hL q hq).two
        rw [hqe, ho] at f1
        obtain rfl := Option.some.inj f1
        rw [e7] at f4
        cases f4
      refine aAny_sound2 hL hok hal hS0 fuel _ _ w' _ act _ β hE' hS' hR' ⟨fun q hq q1 q2 => ?_, fun q hq q' hq' r1 r2 r3 r4 r5 => ?_⟩ hD h3 hn
      · have hqj : q.j ≠ p.j := by
          intro e
          rw [e, hset] at q2
          cases q2
        rw [listed_set _ (hnij q hq)] at q1
        rw [listed_set _ hqj] at q2
        obtain ⟨c1, c2, c3, zc', c4, c5⟩ := hP.1 q hq q1 q2
        have hqd : q.d ≠ p.d := by
          rcases ok1 p hp q hq with ⟨f1, f2, f3⟩ | ⟨f1, f2, f3⟩
          · exact absurd f2 hqj
          · exact f3
        have hne : β q.d ≠ b := by
          rw [← hb0]
          exact hP.2 q hq p hp q1 q2 hli hnl hqd
        refine ⟨c1, fun hk' => ?_, c3, zc', by rw [hoth _ hne]; exact c4, c5⟩
        rcases hkn _ hk' with hk' | hk'
        · exact hne hk'
        · exact c2 hk'
      · have hqj : ∀ q : AS, (listed.setIfInBounds p.j true).getD q.j true = false → q.j ≠ p.j := by
          intro q s e
          rw [e, hset] at s
          cases s
        rw [listed_set _ (hnij q hq)] at r1
        rw [listed_set _ (hqj q r2)] at r2
        rw [listed_set _ (hnij q' hq')] at r3
        rw [listed_set _ (hqj q' r4)] at r4
        exact hP.2 q hq q' hq' r1 r2 r3 r4 r5
    · have h2 : astep (ACalls P) ao a H (aAny (ACalls P) ops al Q fuel (listed.setIfInBounds k true)) := by
        rcases hturn with rfl | rfl
        · exact h1
        · exact turn_step calls_mono h1
      refine astep_sound htr hS hR h2 (fun a' H' g' w' act' q hE' hS' hR' htm => aAny_sound2 hL hok hal hS0 fuel _ g' w' H' act' a' β (hE.trans hE') hS' hR' ⟨fun p hp q1 q2 => ?_, fun p hp q hq r1 r2 r3 r4 r5 => ?_⟩ (fun p hp => ?_) q hn)
      · have hno1 := hno p hp
        rw [listed_set _ (hno1.1)] at q1
        rw [listed_set _ (hno1.2)] at q2
        obtain ⟨b1, b2, b3, zc, b4, b5⟩ := hP.1 p hp q1 q2
        refine ⟨b1, fun hk' => b2 (hE'.known _ (hlt b4) hk'), ?_, zc, ?_, b5⟩
        · rw [htm _ (ok2 p hp k o ho (Ne.symm hno1.1))]
          exact b3
        · rw [hE'.other _ (hlt b4) b2]
          exact b4
      · rw [listed_set _ ((hno p hp).1)] at r1
        rw [listed_set _ ((hno p hp).2)] at r2
        rw [listed_set _ ((hno q hq).1)] at r3
        rw [listed_set _ ((hno q hq).2)] at r4
        exact hP.2 p hp q hq r1 r2 r3 r4 r5
      · have h4 := htm p.d (ok2 p hp k o ho (Ne.symm (hno p hp).1))
        rw [Array.getElem?_eq_getElem (hD p hp)] at h4
        exact (Array.getElem?_eq_some_iff.1 h4).1
theorem draw_sound2 {W : List Nat} {F : Bool} {ops : Array Oper} {al : List AOper} {id : Nat} {Q : List AV → AHeap → Prop} {Qc : Exit → Act → World → Prop} (hm : P.follows .mixedOrders = true) (h : trDraw2 P W F ops = some al) (hN : ((allAS P ops).map fun p => p.d + 1).foldl max 0 ≤ a.length) (hS : Sim g w H) (hR : RepAct g w act a) (hk : aops (ACalls P) al a H Q)
    (hn : ∀ a' H' g' w' act', Q a' H' → Ext g w g' w' → Sim g' w' H' → RepAct g' w' act' a' → Qc .normal act' w') : (Code.region id ops true).wp P Qc act w := by
  unfold trDraw2 at h
  split at h <;> (try (cases h; done))
  rename_i al0 h0
  simp only at h
  split at h <;> (try (cases h; done))
  rename_i hc
  obtain ⟨c0, c1, c2, c3⟩ := hc
  obtain rfl := Option.some.inj h
  obtain ⟨hl, hget⟩ := trOpers_get _ _ h0
  have hsz : ops.size = (turnBy F ops (withAS (allAS P ops) al0)).length := by rw [c1, ← hl]; simp
  obtain ⟨hE, hS'⟩ := hS.heap (w' := { w with drawn := w.drawn + 1 }) rfl rfl rfl rfl
  have h1 := plan_sound (calls_mono (P := P)) hsz _ _ a H c3 hk
  rw [c2] at h1
  have hfold : ∀ (l : List Nat) (x m : Nat), x ∈ l → x ≤ l.foldl max m := by
    intro l
    induction l with
    | nil => intro x m hx; simp at hx
    | cons y l ih =>
      intro x m hx
      have hge : ∀ (l : List Nat) (m : Nat), m ≤ l.foldl max m := by
        intro l
        induction l with
        | nil => intro m; exact Nat.le_refl _
        | cons z l ih2 => intro m; exact Nat.le_trans (Nat.le_max_left _ _) (ih2 (max m z))
      rcases List.mem_cons.1 hx with rfl | hx
      · exact Nat.le_trans (Nat.le_max_right _ _) (hge l _)
      · exact ih x _ hx
  have hrep : ∀ (p : AS), (Array.replicate ops.size false).getD p.i true = true → p.i < ops.size → False := by
    intro p hp hlt
    rw [Array.getD_eq_getD_getElem?, Array.getElem?_replicate, if_pos hlt] at hp
    cases hp
  have hlti : ∀ p ∈ allAS P ops, p.i < ops.size := by
    intro p hp
    obtain ⟨oi, _, _, _, e1, _⟩ := (allAS_spec hp).two
    exact (Array.getElem?_eq_some_iff.1 e1).1
  refine wp_region_any hm (aAny_sound2 (W := W) (fun p hp => allAS_spec hp) c0 (fun i o ho => ?_) hS ops.size _ g _ H act a (fun _ => 0) hE hS' (hR.ext hE) ⟨fun p hp q1 _ => (hrep p q1 (hlti p hp)).elim, fun p hp q hq q1 _ _ _ _ => (hrep p q1 (hlti p hp)).elim⟩ (fun p hp => ?_) h1 hn)
  · obtain ⟨ao, hao, htr⟩ := hget i o (by simpa using ho)
    have hil : i < al0.length := (List.getElem?_eq_some_iff.1 hao).1
    have hw : ∃ aw, (withAS (allAS P ops) al0)[i]? = some aw ∧ ((∃ p ∈ allAS P ops, p.i = i ∧ aw = topOp p) ∨ (∃ p ∈ allAS P ops, p.j = i ∧ aw = putOp p) ∨ ((∀ p ∈ allAS P ops, p.i ≠ i ∧ p.j ≠ i) ∧ aw = ao)) := by
      unfold withAS
      rw [List.getElem?_map, List.getElem?_range hil]
      simp only [Option.map_some, hao, Option.getD_some]
      cases hf : (allAS P ops).find? fun p => p.i == i with
      | some p =>
        have := List.find?_some hf
        exact ⟨_, rfl, .inl ⟨p, List.mem_of_find?_eq_some hf, by simpa using this, rfl⟩⟩
      | none =>
        cases hf2 : (allAS P ops).find? fun p => p.j == i with
        | some p =>
          have := List.find?_some hf2
          exact ⟨_, rfl, .inr (.inl ⟨p, List.mem_of_find?_eq_some hf2, by simpa using this, rfl⟩)⟩
        | none =>
          refine ⟨_, rfl, .inr (.inr ⟨fun p hp => ⟨?_, ?_⟩, rfl⟩)⟩
          · simpa using List.find?_eq_none.1 hf p hp
          · simpa using List.find?_eq_none.1 hf2 p hp
    obtain ⟨aw, haw, hkind⟩ := hw
    obtain ⟨ao', h2, h3⟩ := turnBy_get F ops _ i aw haw
    refine ⟨ao', h2, ?_⟩
    rcases hkind with ⟨p, hp, hpi, rfl⟩ | ⟨p, hp, hpj, rfl⟩ | ⟨hno, rfl⟩
    · refine .inl ⟨p, hp, hpi, ?_⟩
      rcases h3 with rfl | rfl <;> rfl
    · refine .inr (.inl ⟨p, hp, hpj, ?_⟩)
      rcases h3 with rfl | rfl <;> rfl
    · exact .inr (.inr ⟨hno, _, htr, h3⟩)
  · rw [hR.size]
    have := hfold ((allAS P ops).map fun p => p.d + 1) (p.d + 1) 0 (List.mem_map.2 ⟨p, hp, rfl⟩)
    omega
end
end Go.Proofs.YtmdgjfadbhenjaaGreatDoor.AL
/- Whole functions: their code told, their results, their callers. -/
set_option linter.unusedVariables false
set_option linter.unusedSimpArgs false
namespace Go.Proofs.YtmdgjfadbhenjaaGreatDoor.AL
open Go
/-- A text, by its bytes. -/
def B (l : List UInt8) : ByteArray := ⟨l.toArray⟩
/-- A byte as a row's cell. -/
def byteV (b : UInt8) : AV := .int .u8 (b.toNat : Int)
/-- All rows that a value leads to have numbers below n. -/
inductive AV.under (n : Nat) : AV → Prop
  | top : AV.under n .top
  | bool (b : Bool) : AV.under n (.bool b)
  | int (k : IntKind) (i : Int) : AV.under n (.int k i)
  | str (s : ByteArray) : AV.under n (.str s)
  | nilp : AV.under n .nilp
  | ptr (id gen off : Nat) : id < n → AV.under n (.ptr id gen off)
  | nils : AV.under n .nils
  | imm (sz : Nat) (xs : List AV) : (∀ x ∈ xs, ∀ c ∈ x.cells, AV.under n c) → AV.under n (.imm sz xs)
  | wr (id gen off len sz : Nat) : id < n → AV.under n (.wr id gen off len sz)
  | func (fn : Fn) (fs cs : List AV) : (∀ c ∈ fs, AV.under n c) → (∀ c ∈ cs, AV.under n c) → AV.under n (.func fn fs cs)
  | nilf : AV.under n .nilf
  | map (id : Nat) : id < n → AV.under n (.map id)
  | nilm : AV.under n .nilm
  | iface (t : TypeId) (y : AV) : AV.under n y → AV.under n (.iface t y)
  | nili : AV.under n .nili
  | agg (cs : List AV) : (∀ c ∈ cs, AV.under n c) → AV.under n (.agg cs)
  | tup (cs : List AV) : (∀ c ∈ cs, AV.under n c) → AV.under n (.tup cs)
  | rd (ys : List AV) : (∀ c ∈ ys, AV.under n c) → AV.under n (.rd ys)
  | emp : AV.under n .emp
  | wc (id gen off len cap sz : Nat) : id < n → AV.under n (.wc id gen off len cap sz)
def AObj.under (n : Nat) : AObj → Prop
  | .row _ _ cs => ∀ c ∈ cs, c.under n
  | .map es => ∀ e ∈ es, e.1.under n ∧ e.2.under n
  | .iter _ _ => True
def AHeap.within (H : AHeap) (n : Nat) : Prop := ∀ id o, id < n → H.get id = some o → o.under n
section
variable {P : Program} {g : Ghost} {w : World} {H : AHeap} {act : Act} {a : List AV}
theorem Rep.under {n : Nat} {v : Value} {y : AV} (hm : ∀ id gen b, g.m id gen = some b → id < n) (h : Rep g w v y) : y.under n := by
  have mem : ∀ {l : List AV}, (∀ (i : Nat) (c : AV), l[i]? = some c → c.under n) → ∀ c ∈ l, c.under n := by
    intro l hl c hc
    obtain ⟨i, hi⟩ := List.getElem?_of_mem hc
    exact hl i c hi
  have both : ∀ {vs : Array Value} {l : List AV}, vs.size = l.length → (∀ (i : Nat) (v : Value) (c : AV), vs[i]? = some v → l[i]? = some c → c.under n) → ∀ c ∈ l, c.under n := by
    intro vs l hl hh
    refine mem (fun i c hc => ?_)
    have hi : i < vs.size := by rw [hl]; exact (List.getElem?_eq_some_iff.1 hc).1
    exact hh i vs[i] c (Array.getElem?_eq_getElem hi) hc
  induction h with
  | ptr id gen off b hb => exact .ptr _ _ _ (hm _ _ _ hb)
  | imm sz xs b o n c u h1 h2 h3 h4 h5 h6 h7 ih =>
    refine .imm _ _ (fun x hx => ?_)
    obtain ⟨j, hj⟩ := List.getElem?_of_mem hx
    exact mem (fun i c hc => ih j x i c hj hc)
  | wr id gen off len sz b c e n h1 h2 h3 h4 h5 => exact .wr _ _ _ _ _ (hm _ _ _ h1)
  | wc id gen off len cap sz b e n h1 h2 h3 h4 h5 => exact .wc _ _ _ _ _ _ (hm _ _ _ h1)
  | func fn first caps fs cs h1 h2 h3 h4 ih1 ih2 => exact .func _ _ _ (both h1 ih1) (both h2 ih2)
  | map id b hb => exact .map _ (hm _ _ _ hb)
  | iface t v y h1 ih => exact .iface _ _ ih
  | agg vs ys h1 h2 ih => exact .agg _ (both h1 ih)
  | tup vs ys h1 h2 ih => exact .tup _ (both h1 ih)
  | rd b o ys u h1 h2 h3 ih => exact .rd _ (mem ih)
  | _ => constructor
/-- The ghost without rows from n on. -/
def Ghost.cut (g : Ghost) (n : Nat) : Ghost where
  m i k := if i < n then g.m i k else none
  Z := g.Z
theorem Rep.cut {n : Nat} {v : Value} {y : AV} (h : Rep g w v y) (hb : y.under n) : Rep (g.cut n) w v y := by
  have hm : ∀ {id gen b}, g.m id gen = some b → id < n → (g.cut n).m id gen = some b := by
    intro id gen b h1 h2
    simp only [Ghost.cut, if_pos h2]
    exact h1
  induction h with
  | top v => exact .top v
  | bool b => exact .bool b
  | int k n => exact .int k n
  | str s => exact .str s
  | nilp => exact .nilp
  | ptr id gen off b h1 => cases hb; exact .ptr _ _ _ _ (hm h1 (by assumption))
  | nils => exact .nils
  | imm sz xs b o n' c u h1 h2 h3 h4 h5 h6 h7 ih =>
    cases hb with
    | imm _ _ hx => exact .imm sz xs b o n' c u h1 h2 h3 h4 h5 h6 (fun j x i y hj hi => ih j x i y hj hi (hx x (List.mem_of_getElem? hj) y (List.mem_of_getElem? hi)))
  | wr id gen off len sz b c e n' h1 h2 h3 h4 h5 => cases hb; exact .wr id gen off len sz b c e n' (hm h1 (by assumption)) h2 h3 h4 h5
  | func fn first caps fs cs h1 h2 h3 h4 ih1 ih2 =>
    cases hb with
    | func _ _ _ hf hc => exact .func fn first caps fs cs h1 h2 (fun i v y hv hy => ih1 i v y hv hy (hf y (List.mem_of_getElem? hy))) (fun i v y hv hy => ih2 i v y hv hy (hc y (List.mem_of_getElem? hy)))
  | nilf => exact .nilf
  | map id b h1 => cases hb; exact .map id b (hm h1 (by assumption))
  | nilm => exact .nilm
  | iface t v y h1 ih => cases hb with | iface _ _ hy => exact .iface t v y (ih hy)
  | nili => exact .nili
  | agg vs ys h1 h2 ih => cases hb with | agg _ hc => exact .agg vs ys h1 (fun i v y hv hy => ih i v y hv hy (hc y (List.mem_of_getElem? hy)))
  | tup vs ys h1 h2 ih => cases hb with | tup _ hc => exact .tup vs ys h1 (fun i v y hv hy => ih i v y hv hy (hc y (List.mem_of_getElem? hy)))
  | rd b o ys u h1 h2 h3 ih => cases hb with | rd _ hc => exact .rd b o ys u h1 h2 (fun i y hy => ih i y hy (hc y (List.mem_of_getElem? hy)))
  | emp a c => exact .emp a c
  | wc id gen off len cap sz b e n' h1 h2 h3 h4 h5 => cases hb; exact .wc id gen off len cap sz b e n' (hm h1 (by assumption)) h2 h3 h4 h5
theorem Sim.within (hS : Sim g w H) : H.within H.next := by
  intro id o hid ho
  have hm : ∀ id gen b, g.m id gen = some b → id < H.next := fun i k b hb => (hS.mlt i k b hb).1
  cases o with
  | row e gen cs =>
    obtain ⟨b, cur, lo, hi, h1, h2, h3, h4, h5⟩ := hS.live id _ ho
    intro c hc
    obtain ⟨i, hi'⟩ := List.getElem?_of_mem hc
    obtain ⟨u, hu, hr⟩ := h5 i c hi'
    exact hr.under hm
  | map es =>
    obtain ⟨b, ms, clock, h1, h2, h3, h4⟩ := hS.live id _ ho
    intro e he
    obtain ⟨i, hi'⟩ := List.getElem?_of_mem he
    have hil : i < ms.size := by rw [h3]; exact (List.getElem?_eq_some_iff.1 hi').1
    have := h4 i ms[i] e (Array.getElem?_eq_getElem hil) hi'
    exact ⟨this.1.under hm, this.2.under hm⟩
  | iter s pos => trivial
theorem Sim.trunc {n : Nat} (hS : Sim g w H) (hs : H.within n) : Sim (g.cut n) w (H.trunc n) := by
  have hmm : ∀ {id gen b}, (g.cut n).m id gen = some b → id < n ∧ g.m id gen = some b := by
    intro id gen b h
    simp only [Ghost.cut] at h
    split at h
    · exact ⟨by assumption, h⟩
    · cases h
  have hget : ∀ {id o}, (H.trunc n).get id = some o → id < n ∧ H.get id = some o := by
    intro id o h
    simp only [AHeap.trunc] at h
    split at h
    · exact ⟨by assumption, h⟩
    · cases h
  refine ⟨hS.zlt, fun id gen b hb => ?_, fun id o ho => ?_, fun id id' o o' b ho ho' hb hb' => hS.inj _ _ _ _ b (hget ho).2 (hget ho').2 (hmm hb).2 (hmm hb').2, fun id o b ho hb => hS.nz _ _ _ (hget ho).2 (hmm hb).2, fun id o gen b ho hb => hS.gen _ _ _ _ (hget ho).2 (hmm hb).2, hS.var⟩
  · obtain ⟨h1, h2⟩ := hmm hb
    have := hS.mlt _ _ _ h2
    simp only [AHeap.trunc]
    omega
  · obtain ⟨h1, h2⟩ := hget ho
    have hbl := hs id o h1 h2
    have hr := hS.live id o h2
    cases o with
    | row e gen cs =>
      obtain ⟨b, cur, lo, hi, q1, q2, q3, q4, q5⟩ := hr
      refine ⟨b, cur, lo, hi, by simp only [Ghost.cut, if_pos h1]; exact q1, q2, q3, q4, fun i y hy => ?_⟩
      obtain ⟨u, hu, hrep⟩ := q5 i y hy
      exact ⟨u, hu, hrep.cut (hbl y (List.mem_of_getElem? hy))⟩
    | map es =>
      obtain ⟨b, ms, clock, q1, q2, q3, q4⟩ := hr
      refine ⟨b, ms, clock, by simp only [Ghost.cut, if_pos h1]; exact q1, q2, q3, fun i e x he hx => ?_⟩
      have := hbl x (List.mem_of_getElem? hx)
      exact ⟨(q4 i e x he hx).1.cut this.1, (q4 i e x he hx).2.cut this.2⟩
    | iter s pos =>
      obtain ⟨b, q1, q2⟩ := hr
      exact ⟨b, by simp only [Ghost.cut, if_pos h1]; exact q1, q2⟩
/-- At a function's end: rows are shut, and those of its own are forgotten that nothing leads to. -/
def ARet (n : Nat) (K : AV → AHeap → Prop) (y : AV) (H : AHeap) : Prop := ∃ H1 y1 m, Shut H y H1 y1 ∧ n ≤ m ∧ y1.under m ∧ H1.within m ∧ K y1 (H1.trunc m)
inductive RV where
  | tmp (t : Nat)
  | cell (t : Nat) (agg : Bool) (n : Nat)
def ares1 (H : AHeap) (a : List AV) : RV → Option AV
  | .tmp t => some (a.getD t .top)
  | .cell t ag n => aload H ag n (a.getD t .top)
def aresL (H : AHeap) (a : List AV) : List RV → Option (List AV)
  | [] => some []
  | r :: l => match ares1 H a r, aresL H a l with
    | some y, some ys => some (y :: ys)
    | _, _ => none
def ares (H : AHeap) (a : List AV) (l : List RV) : Option AV := match aresL H a l with
  | some [y] => some y
  | some ys => some (.tup ys)
  | none => none
def trRes (P : Program) : List ResultVar → Option (List RV)
  | [] => some []
  | .tmp t :: l => (trRes P l).map (.tmp t :: ·)
  | .cell t ty :: l => match tAgg P ty, tSize P ty, trRes P l with
    | some ag, some n, some r => some (.cell t ag n :: r)
    | _, _, _ => none
theorem eval_tmp (hR : RepAct g w act a) (t : Nat) : Rep g w (act.tmps.getD t undef) (a.getD t .top) := trX_rep (x := .tmp t) (x' := .tmp t) hR rfl
def resOne (tmps : Array Value) : ResultVar → Sem Value
  | .tmp t => pure (tmps.getD t undef)
  | .cell c t => do loadVar t (← asAddr (tmps.getD c undef))
theorem results_is (fn : Func) (tmps : Array Value) : results fn tmps = (do
    let vs ← fn.results.mapM (resOne tmps)
    pure (if h : vs.size = 1 then vs[0] else .tuple vs)) := rfl
theorem run_results (hS : Sim g w H) (hR : RepAct g w act a) {fn : Func} {rs : List RV} {y : AV} (h : trRes P fn.results.toList = some rs) (hy : ares H a rs = some y) : ∃ v, (results fn act.tmps).run P w = .ok v w ∧ Rep g w v y := by
  have key : ∀ (l : List ResultVar) (rs : List RV) (ys : List AV), trRes P l = some rs → aresL H a rs = some ys → ∃ vs : List Value, (l.mapM (fun (r : ResultVar) => resOne act.tmps r)).run P w = .ok vs w ∧ Reps g w vs.toArray ys := by
    intro l
    induction l with
    | nil =>
      intro rs ys h1 h2
      obtain rfl := Option.some.inj h1
      obtain rfl := Option.some.inj h2
      exact ⟨[], by simp, rfl, fun i v y h => by simp at h⟩
    | cons r l ih =>
      intro rs ys h1 h2
      have fin : ∀ {v : Value} {z : AV} {vs : List Value} {zs : List AV}, Rep g w v z → Reps g w vs.toArray zs → Reps g w (v :: vs).toArray (z :: zs) := by
        intro v z vs zs h3 h4
        refine ⟨by simpa using h4.1, fun i u x hu hx => ?_⟩
        cases i with
        | zero => simp at hu hx; subst hu; subst hx; exact h3
        | succ i => exact h4.2 i u x (by simpa using hu) (by simpa using hx)
      cases r with
      | tmp t =>
        simp only [trRes] at h1
        obtain ⟨r1, hr1, rfl⟩ := Option.map_eq_some_iff.1 h1
        simp only [aresL, ares1] at h2
        split at h2 <;> (try (cases h2; done))
        rename_i z zs hz hzs
        obtain rfl := Option.some.inj h2
        obtain rfl := Option.some.inj hz
        obtain ⟨vs, h3, h4⟩ := ih _ _ hr1 hzs
        refine ⟨_ :: vs, ?_, fin (eval_tmp hR t) h4⟩
        have hu3 : (resOne act.tmps (.tmp t)).run P w = .ok (act.tmps.getD t undef) w := rfl
        simp only [List.mapM_cons, Sem.run_bind, Sem.run_pure, Result.andThen_ok, hu3, h3]
      | cell t ty =>
        simp only [trRes] at h1
        split at h1 <;> (try (cases h1; done))
        rename_i ag n r1 ha hn hr1
        obtain rfl := Option.some.inj h1
        simp only [aresL, ares1] at h2
        split at h2 <;> (try (cases h2; done))
        rename_i z zs hz hzs
        obtain rfl := Option.some.inj h2
        obtain ⟨vs, h3, h4⟩ := ih _ _ hr1 hzs
        obtain ⟨u, hu, hrep⟩ := run_aload (P := P) hS ha hn (eval_tmp hR t) hz
        have hu2 : (do loadVar ty (← asAddr (act.tmps.getD t undef)) : Sem Value).run P w = .ok u w := by
          have hp : ∃ ad, act.tmps.getD t undef = .pointer (some ad) := by
            have hr := eval_tmp hR t
            unfold aload at hz
            split at hz
            · rename_i hq; rw [hq] at hr; obtain ⟨b, hb, _⟩ := hr.ptr_inv; exact ⟨_, hb⟩
            · rename_i hq; rw [hq] at hr; obtain ⟨b, o, u, hb, _⟩ := hr.rd_inv; exact ⟨_, hb⟩
            · cases hz
          obtain ⟨ad, had⟩ := hp
          rw [had] at hu ⊢
          simpa [Instr.loadAt, Instr.sureAddr, asAddr] using hu
        refine ⟨u :: vs, ?_, fin hrep h4⟩
        have hu3 : (resOne act.tmps (.cell t ty)).run P w = .ok u w := hu2
        simp only [List.mapM_cons, Sem.run_bind, Sem.run_pure, Result.andThen_ok]
        rw [hu3]
        simp only [Result.andThen_ok, h3]
  unfold ares at hy
  have run : ∀ (vs : List Value), (fn.results.toList.mapM (fun (r : ResultVar) => resOne act.tmps r)).run P w = .ok vs w → (results fn act.tmps).run P w = .ok (if h : vs.toArray.size = 1 then vs.toArray[0] else .tuple vs.toArray) w := by
    intro vs hvs
    rw [results_is, Array.mapM_eq_mapM_toList]
    simp only [Sem.run_bind, Sem.run_map]
    rw [hvs]
    rfl
  cases hl : aresL H a rs with
  | none => rw [hl] at hy; cases hy
  | some ys =>
    obtain ⟨vs, h1, h2⟩ := key _ _ _ h hl
    have h3 := run vs h1
    have hlen : vs.length = ys.length := by simpa using h2.1
    rw [hl] at hy
    by_cases h1' : ys.length = 1
    · match ys, h1' with
      | [z], _ =>
        simp only at hy
        obtain rfl := Option.some.inj hy
        match vs, hlen with
        | [v], _ =>
          refine ⟨v, by rw [h3]; rfl, h2.2 0 v z (by simp) (by simp)⟩
    · refine ⟨.tuple vs.toArray, ?_, ?_⟩
      · rw [h3, dif_neg (by simp; omega)]
      · have : y = .tup ys := by
          match ys, h1' with
          | [], _ => exact (Option.some.inj hy).symm
          | [z], h => simp at h
          | z :: z2 :: zs, _ => exact (Option.some.inj hy).symm
        subst this
        exact .tup _ _ h2.1 h2.2
/-! ### code -/
def stopC : ACode := .region [⟨none, .s .stop, none⟩]
/-- Which slots' variables a region finds written to no more: told by the numbers from 1000000 on (1000000 times the region's number and one, and the slot). -/
def frzOf (W : List Nat) (id : Nat) : List Nat := W.filterMap fun w => if w / 1000000 = id + 1 then some (w % 1000000) else none
/-- A region told; in one of open order reads are told as ones of cells that nobody writes to (F), or calls as ones that leave memory alone. -/
def forkC (P : Program) (W : List Nat) (ms : List Nat) (ops : Array Oper) : ACode := match trFork P W ms ops with
  | some (p, r1, r2) => .seq (.region p) (.both (.region r1) (.region r2))
  | none => stopC
def trR (P : Program) (W : List Nat) (ms : List Nat) (ops : Array Oper) : Bool → ACode
  | true => if ms.contains 999999 then forkC P W ms ops else match (if ms.isEmpty then trDraw P W ops else trDrawF P W ops) with
    | some al => .region al
    | none => match trDraw2 P W (!ms.isEmpty) ops with
      | some al => .regionN (((allAS P ops).map fun p => p.d + 1).foldl max 0) al
      | none => forkC P W ms ops
  | false => match trOpers P W ops ops.toList with
    | some al => .region al
    | none => stopC
/-- Code of a kind that is not told of is not to be reached. -/
def trC (P : Program) (W : List Nat) : Code → ACode
  | .skip => .skip
  | .region id ops draw => if frzOf W id ≠ [] then .seq (.fregion ((frzOf W id).filter (· < 900000)) []) (trR P W (frzOf W id) ops draw) else trR P W [] ops draw
  | .seq x y => .seq (trC P W x) (trC P W y)
  | .cond c x y => match trX c with
    | some c => .cond c (trC P W x) (trC P W y)
    | none => stopC
  | .block id c => .block id (trC P W c)
  | .loop c => .loop (trC P W c)
  | .exit id => .exit id
  | .scope c => trC P W c
  | .label _ => .skip
  | .ret => .ret
  | _ => stopC
def exOf : AExit → Exit
  | .normal => .normal
  | .exit id => .exit id
  | .ret => .ret
/-- What holds behind code, told of the machine. -/
def Covers (g : Ghost) (w : World) (Q : AExit → List AV → AHeap → Prop) (Qc : Exit → Act → World → Prop) : Prop :=
  ∀ e a' H' g' w' act', Q e a' H' → Ext g w g' w' → Sim g' w' H' → RepAct g' w' act' a' → Qc (exOf e) act' w'
theorem Forget.rep {a' : List AV} (h : Forget a a') (hR : RepAct g w act a) : RepAct g w act a' := by
  refine ⟨hR.defers, by rw [hR.size]; exact h.1, fun i v z hv hz => ?_⟩
  have hi : i < a.length := by rw [← hR.size]; exact (Array.getElem?_eq_some_iff.1 hv).1
  rcases h.2 i a[i] z (List.getElem?_eq_getElem hi) hz with rfl | rfl
  · exact hR.rep i v _ hv (List.getElem?_eq_getElem hi)
  · exact .top _
theorem Covers.ext {g' : Ghost} {w' : World} {Q : AExit → List AV → AHeap → Prop} {Qc : Exit → Act → World → Prop} (h : Covers g w Q Qc) (hE : Ext g w g' w') : Covers g' w' Q Qc :=
  fun e a2 H2 g2 w2 act2 q hE2 => h e a2 H2 g2 w2 act2 q (hE.trans hE2)
theorem stop_wp {C : (Nat → List AV → AHeap → (AV → AHeap → Prop) → Prop)} {Q : AExit → List AV → AHeap → Prop} (h : awp C stopC Q a H) : False := h
theorem shut_ptr {id gen off : Nat} {e : TypeId} {cs : List AV} {v : Value} (hS : Sim g w H) (ho : H.get id = some (.row e gen cs)) (hr : Rep g w v (.ptr id gen off)) :
    ∃ g', Ext g w g' w ∧ Sim g' w (H.kill id) ∧ Rep g' w v (.rd (cs.drop off)) := by
  obtain ⟨b, rfl, h1⟩ := hr.ptr_inv
  obtain ⟨hE, hK⟩ := sim_kill hS ho h1
  refine ⟨_, hE, hK, ?_⟩
  have hrow := live_row hS ho h1
  refine .rd b off _ (fun k => (w.cell? ⟨b, off + k, none⟩).getD undef) (.inr rfl) (fun k hk => ?_) (fun i y hi => ?_)
  · have hk3 : (cs.drop off)[k]? = some ((cs.drop off)[k]) := List.getElem?_eq_getElem hk
    rw [List.getElem?_drop] at hk3
    obtain ⟨u, hu, _⟩ := hrow (off + k) _ hk3
    rw [Nat.zero_add] at hu
    rw [hu]
    rfl
  · rw [List.getElem?_drop] at hi
    obtain ⟨u, hu, hrep⟩ := hrow _ _ hi
    rw [Nat.zero_add] at hu
    rw [hu]
    exact hrep.ext hE
theorem one_cells {c : AV} (h : c.one = true) : c.cells = [c] := by
  cases c <;> first | rfl | cases h
theorem one_flat : ∀ {cs : List AV}, cs.all AV.one = true → cs.flatMap AV.cells = cs
  | [], _ => rfl
  | c :: cs, h => by
    rw [List.all_cons, Bool.and_eq_true] at h
    rw [List.flatMap_cons, one_cells h.1, one_flat h.2]
    rfl
theorem slot_has {t : Nat} {y : AV} (hR : RepAct g w act a) (ht : a.getD t .top = y) (hy : y ≠ .top) : ∃ v, act.tmps[t]? = some v ∧ Rep g w v y := by
  have hlt : t < a.length := by
    rcases Nat.lt_or_ge t a.length with h1 | h1
    · exact h1
    · rw [List.getD_eq_getElem?_getD, List.getElem?_eq_none h1] at ht
      exact absurd ht.symm hy
  have hlt2 : t < act.tmps.size := by rw [hR.size]; exact hlt
  refine ⟨_, Array.getElem?_eq_getElem hlt2, hR.rep t act.tmps[t] _ (Array.getElem?_eq_getElem hlt2) ?_⟩
  rw [List.getD_eq_getElem?_getD, List.getElem?_eq_getElem hlt] at ht
  rw [List.getElem?_eq_getElem hlt]
  exact congrArg some ht
theorem slot_set1 {t : Nat} {y y' : AV} {g' : Ghost} {v : Value} (hR : RepAct g w act a) (hv : act.tmps[t]? = some v) (hE : Ext g w g' w) (hr : Rep g' w v y') : RepAct g' w act (a.set t y') := by
  have hlt2 : t < act.tmps.size := (Array.getElem?_eq_some_iff.1 hv).1
  have hlt : t < a.length := by rw [← hR.size]; exact hlt2
  have hR' := hR.ext hE
  refine ⟨hR'.defers, by rw [List.length_set]; exact hR'.size, fun i u z hu hz => ?_⟩
  by_cases hi : t = i
  · subst hi
    rw [List.getElem?_set_self hlt] at hz
    obtain rfl := Option.some.inj hz
    rw [hv] at hu
    obtain rfl := Option.some.inj hu
    exact hr
  · rw [List.getElem?_set_ne hi] at hz
    exact hR'.rep i u z hu hz
theorem chunkF_is (sz : Nat) : ∀ (n : Nat) (cs : List AV), n * sz ≤ cs.length → (∀ x ∈ chunkF sz n cs, x.cells.length = sz) ∧ (chunkF sz n cs).length = n ∧ (chunkF sz n cs).flatMap AV.cells = cs.take (n * sz)
  | 0, cs, _ => ⟨by simp [chunkF], rfl, by simp [chunkF]⟩
  | n + 1, cs, h => by
    rw [Nat.succ_mul] at h
    obtain ⟨h1, h2, h3⟩ := chunkF_is sz n (cs.drop sz) (by rw [List.length_drop]; omega)
    refine ⟨fun x hx => ?_, by simp [chunkF, h2], ?_⟩
    · rw [chunkF] at hx
      rcases List.mem_cons.1 hx with e | e
      · rw [e]
        show (cs.take sz).length = sz
        rw [List.length_take]
        omega
      · exact h1 x e
    · rw [chunkF, List.flatMap_cons, h3]
      show cs.take sz ++ (cs.drop sz).take (n * sz) = _
      rw [Nat.succ_mul, Nat.add_comm, List.take_add]
theorem chunkA_is {sz n : Nat} {cs : List AV} (h : n * sz ≤ cs.length) (ho : cs.all AV.one = true) : (∀ x ∈ chunkA sz n cs, x.cells.length = sz) ∧ (chunkA sz n cs).length = n ∧ (cs.drop 0).take (n * sz) = (chunkA sz n cs).flatMap AV.cells := by
  unfold chunkA
  rw [List.drop_zero]
  split
  · rename_i h1
    subst h1
    have hot : (cs.take n).all AV.one = true := by
      rw [List.all_eq_true] at ho ⊢
      exact fun x hx => ho x (List.mem_of_mem_take hx)
    refine ⟨fun x hx => ?_, by rw [List.length_take]; omega, by rw [one_flat hot, Nat.mul_one]⟩
    rw [one_cells (List.all_eq_true.1 hot x hx)]
    rfl
  · obtain ⟨h1, h2, h3⟩ := chunkF_is sz n cs h
    exact ⟨h1, h2, h3.symm⟩
theorem shut1_is {c c' : AV} {i : Nat} (h : shut1 H c = some (c', i)) : Shut H c (H.kill i) c' := by
  unfold shut1 at h
  split at h
  · rename_i i0 g0 off len sz
    split at h
    · rename_i e g' cs hg
      split at h
      · rename_i hc
        obtain ⟨rfl, rfl, hl, ho⟩ := hc
        obtain ⟨rfl, rfl⟩ := Prod.mk.inj (Option.some.inj h)
        obtain ⟨q1, q2, q3⟩ := chunkA_is hl ho
        exact .row _ _ _ _ _ _ e cs _ hg q1 q2 q3
      · cases h
    · cases h
  · rename_i i0 g0 off len cap sz
    split at h
    · rename_i e g' cs hg
      split at h
      · rename_i hc
        obtain ⟨rfl, rfl, hl, ho⟩ := hc
        obtain ⟨rfl, rfl⟩ := Prod.mk.inj (Option.some.inj h)
        obtain ⟨q1, q2, q3⟩ := chunkA_is hl ho
        exact .trans _ _ _ _ _ _ (.soft _ _ _ _ _ _ _) (.row _ _ _ _ _ _ e cs _ hg q1 q2 q3)
      · cases h
    · cases h
  · cases h
theorem deepL_sound {id gg : Nat} {e : TypeId} {w : World} : ∀ (r pre : List AV) {g : Ghost} {H H' : AHeap}, Sim g w H → H.get id = some (.row e gg (pre ++ r)) → deepL id e gg pre r H = some H' → ∃ g', Ext g w g' w ∧ Sim g' w H'
  | [], pre, g, H, H', hS, hg, h => by
    rw [deepL] at h
    obtain rfl := Option.some.inj h
    exact ⟨g, Ext.refl _ _, hS⟩
  | c :: r, pre, g, H, H', hS, hg, h => by
    rw [deepL] at h
    split at h
    · rename_i c' i hc
      split at h
      · rename_i hi
        have hk : (H.kill i).get id = some (.row e gg (pre ++ c :: r)) := by rw [kill_get_ne _ _ _ (fun e => hi e.symm)]; exact hg
        have hsh : Shut H .nilp ((H.kill i).set id (.row e gg (pre ++ c' :: r))) .nilp := .cell _ _ _ _ _ _ _ _ _ _ hg (shut1_is hc) hk
        obtain ⟨g1, hE1, hS1, _⟩ := hsh.sound hS (v := .pointer none) .nilp
        obtain ⟨g2, hE2, hS2⟩ := deepL_sound r (pre ++ [c']) hS1 (by rw [set_get_same _ _ _ ((H.kill i).lt hk), List.append_assoc]; rfl) h
        exact ⟨g2, hE1.trans hE2, hS2⟩
      · cases h
    · exact deepL_sound r (pre ++ [c]) hS (by rw [List.append_assoc]; exact hg) h
theorem frzD_sound {t : Nat} {H' : AHeap} (hS : Sim g w H) (h : frzD t a H = some H') : ∃ g', Ext g w g' w ∧ Sim g' w H' := by
  unfold frzD at h
  split at h
  · split at h
    · split at h
      · rename_i hgg
        subst hgg
        exact deepL_sound _ _ hS (by assumption) h
      · cases h
    · cases h
  · cases h
theorem frz1_sound {t : Nat} {a' : List AV} {H' : AHeap} (hS : Sim g w H) (hR : RepAct g w act a) (h : frz1 t a H = some (a', H')) : ∃ g', Ext g w g' w ∧ Sim g' w H' ∧ RepAct g' w act a' := by
  unfold frz1 at h
  split at h
  · obtain ⟨H1, h1, h2⟩ := Option.map_eq_some_iff.1 h
    obtain ⟨rfl, rfl⟩ := Prod.mk.inj h2
    obtain ⟨g', hE, hS'⟩ := frzD_sound hS h1
    exact ⟨g', hE, hS', hR.ext hE⟩
  split at h
  · rename_i id gen off ht
    split at h
    · rename_i e g0 cs hg
      split at h
      · rename_i hgg
        subst hgg
        obtain ⟨rfl, rfl⟩ := Prod.mk.inj (Option.some.inj h)
        obtain ⟨v, hv, hr⟩ := slot_has hR ht (by intro e; cases e)
        obtain ⟨g', hE, hK, hr'⟩ := shut_ptr hS hg hr
        exact ⟨g', hE, hK, slot_set1 (y := .top) hR hv hE hr'⟩
      · cases h
    · cases h
  · rename_i id gen off len sz ht
    split at h
    · rename_i e g0 cs hg
      split at h
      · rename_i hc
        obtain ⟨rfl, rfl, rfl, hl, ho⟩ := hc
        obtain ⟨rfl, rfl⟩ := Prod.mk.inj (Option.some.inj h)
        obtain ⟨v, hv, hr⟩ := slot_has hR ht (by intro e; cases e)
        obtain ⟨g', hE, hK, hr'⟩ := shut_row (xs := cs) hS hg hr (fun x hx => by rw [one_cells (List.all_eq_true.1 ho x hx)]; rfl) hl (by rw [one_flat ho, List.drop_zero, List.take_of_length_le (by omega)])
        exact ⟨g', hE, hK, slot_set1 (y := .top) hR hv hE hr'⟩
      · cases h
    · cases h
  · obtain ⟨rfl, rfl⟩ := Prod.mk.inj (Option.some.inj h)
    exact ⟨g, Ext.refl _ _, hS, hR⟩
theorem frzS_sound : ∀ (ts : List Nat) {a' : List AV} {H' : AHeap} {g : Ghost} {H : AHeap} {a : List AV}, Sim g w H → RepAct g w act a → frzS ts a H = some (a', H') → ∃ g', Ext g w g' w ∧ Sim g' w H' ∧ RepAct g' w act a'
  | [], _, _, g, _, _, hS, hR, h => by
    obtain ⟨rfl, rfl⟩ := Prod.mk.inj (Option.some.inj h)
    exact ⟨g, Ext.refl _ _, hS, hR⟩
  | t :: ts, _, _, g, _, _, hS, hR, h => by
    unfold frzS at h
    split at h
    · rename_i a1 H1 h1
      obtain ⟨g1, hE1, hS1, hR1⟩ := frz1_sound hS hR h1
      obtain ⟨g2, hE2, hS2, hR2⟩ := frzS_sound ts hS1 hR1 h
      exact ⟨g2, hE1.trans hE2, hS2, hR2⟩
    · cases h
theorem region_sound {W : List Nat} {ms : List Nat} {ops : Array Oper} {id : Nat} {draw : Bool} (hm : P.follows .mixedOrders = true) {Q : AExit → List AV → AHeap → Prop} {Qc : Exit → Act → World → Prop}
    (hS : Sim g w H) (hR : RepAct g w act a) (hk : awp (ACalls P) (trR P W ms ops draw) Q a H) (hC : Covers g w Q Qc) : (Code.region id ops draw).wp P Qc act w := by
  have hn : ∀ a' H' g' w' act', Q .normal a' H' → Ext g w g' w' → Sim g' w' H' → RepAct g' w' act' a' → Qc .normal act' w' := fun a' H' g' w' act' q hE hS' hR' => hC .normal a' H' g' w' act' q hE hS' hR'
  cases draw with
  | true =>
    have hfork : awp (ACalls P) (forkC P W ms ops) Q a H → (Code.region id ops true).wp P Qc act w := fun hk => by
      unfold forkC at hk
      split at hk <;> (try (exact (stop_wp hk).elim))
      rename_i p r1 r2 hal
      exact fork_sound hm hal hS hR hk hn
    simp only [trR] at hk
    split at hk
    · exact hfork hk
    split at hk
    · rename_i al hal
      cases hms : ms.isEmpty with
      | true =>
        rw [hms, if_pos rfl] at hal
        exact draw_sound hm hal hS hR hk hn
      | false =>
        rw [hms, if_neg Bool.false_ne_true] at hal
        exact draw_soundF hm hal hS hR hk hn
    · split at hk
      · rename_i al hal
        exact draw_sound2 hm hal hk.1 hS hR hk.2 hn
      · exact hfork hk
  | false =>
    simp only [trR] at hk
    split at hk <;> (try (exact (stop_wp hk).elim))
    rename_i al hal
    obtain ⟨hl, hget⟩ := trOpers_get _ _ hal
    have := aops_sound (P := P) (ops := ops) (Qc := Qc) al 0 g w H act a (fun i ao hi => by
      have hlt : i < ops.toList.length := by rw [hl]; exact (List.getElem?_eq_some_iff.1 hi).1
      obtain ⟨ao', h1, h2⟩ := hget i ops.toList[i] (List.getElem?_eq_getElem hlt)
      rw [hi] at h1
      obtain rfl := Option.some.inj h1
      refine ⟨ops.toList[i], ?_, h2⟩
      rw [Nat.zero_add]
      simp) hS hR hk hn
    refine wp_region ?_
    rw [show ops.size = al.length by rw [← hl]; simp, List.range_eq_range']
    exact this
theorem awp_sound {W : List Nat} (hm : P.follows .mixedOrders = true) : ∀ (c : Code) (Q : AExit → List AV → AHeap → Prop) (Qc : Exit → Act → World → Prop) (g : Ghost) (w : World) (H : AHeap) (act : Act) (a : List AV),
    Sim g w H → RepAct g w act a → awp (ACalls P) (trC P W c) Q a H → Covers g w Q Qc → c.wp P Qc act w := by
  intro c
  induction c with
  | skip =>
    intro Q Qc g w H act a hS hR hk hC
    exact wp_skip (hC .normal a H g w act hk (Ext.refl _ _) hS hR)
  | region id ops draw =>
    intro Q Qc g w H act a hS hR hk hC
    simp only [trC] at hk
    split at hk
    · simp only [awp] at hk
      split at hk <;> (try (exact hk.elim))
      rename_i a1 H1 hf
      obtain ⟨g1, hE1, hS1, hR1⟩ := frzS_sound _ hS hR hf
      exact region_sound hm hS1 hR1 hk (hC.ext hE1)
    · exact region_sound hm hS hR hk hC
  | seq x y ihx ihy =>
    intro Q Qc g w H act a hS hR hk hC
    refine wp_seq (ihx _ _ g w H act a hS hR hk (fun e a' H' g' w' act' q hE hS' hR' => ?_))
    cases e with
    | normal => exact ihy Q Qc g' w' H' act' a' hS' hR' q (hC.ext hE)
    | exit i => exact hC (.exit i) a' H' g' w' act' q hE hS' hR'
    | ret => exact hC .ret a' H' g' w' act' q hE hS' hR'
  | cond c x y ihx ihy =>
    intro Q Qc g w H act a hS hR hk hC
    simp only [trC] at hk
    split at hk <;> (try (exact (stop_wp hk).elim))
    rename_i c' hc
    simp only [awp] at hk
    split at hk <;> (try (exact hk.elim))
    rename_i b hb
    have hr := trX_rep hR hc
    rw [hb] at hr
    refine wp_cond (t := b) (bool_inv hr) ?_
    cases b with
    | true => rw [if_pos rfl] at hk ⊢; exact ihx Q Qc g w H act a hS hR hk hC
    | false => rw [if_neg (by simp)] at hk ⊢; exact ihy Q Qc g w H act a hS hR hk hC
  | block id c ih =>
    intro Q Qc g w H act a hS hR hk hC
    refine wp_block (ih _ _ g w H act a hS hR hk (fun e a' H' g' w' act' q hE hS' hR' => ?_))
    cases e with
    | normal => exact hC .normal a' H' g' w' act' q hE hS' hR'
    | exit i =>
      simp only at q
      show (if i = id then _ else _)
      by_cases hi : i = id
      · rw [if_pos hi] at q ⊢; exact hC .normal a' H' g' w' act' q hE hS' hR'
      · rw [if_neg hi] at q ⊢; exact hC (.exit i) a' H' g' w' act' q hE hS' hR'
    | ret => exact hC .ret a' H' g' w' act' q hE hS' hR'
  | loop c ih =>
    intro Q Qc g w H act a hS hR hk hC
    obtain ⟨I, μ, ⟨a2, hf, hi⟩, hround⟩ := hk
    refine wp_loop_ghost (fun n act' w' => ∃ g' a' H', Ext g w g' w' ∧ Sim g' w' H' ∧ RepAct g' w' act' a' ∧ I a' H' ∧ μ a' H' = n) (μ a2 H) ⟨g, a2, H, Ext.refl _ _, hS, hf.rep hR, hi, rfl⟩ ?_
    rintro n act1 w1 ⟨g1, a1, H1, hE1, hS1, hR1, hI1, hn1⟩
    refine ih _ _ g1 w1 H1 act1 a1 hS1 hR1 (hround a1 H1 hI1) (fun e a' H' g' w' act' q hE hS' hR' => ?_)
    cases e with
    | normal =>
      obtain ⟨a3, hf3, hi3, hm3⟩ := q
      exact ⟨_, hn1 ▸ hm3, g', a3, H', hE1.trans hE, hS', hf3.rep hR', hi3, rfl⟩
    | exit i => exact hC (.exit i) a' H' g' w' act' q (hE1.trans hE) hS' hR'
    | ret => exact hC .ret a' H' g' w' act' q (hE1.trans hE) hS' hR'
  | exit id =>
    intro Q Qc g w H act a hS hR hk hC
    exact wp_exit (hC (.exit id) a H g w act hk (Ext.refl _ _) hS hR)
  | scope c ih =>
    intro Q Qc g w H act a hS hR hk hC
    refine wp_scope_straight (ih Q _ g w H act a hS hR hk (fun e a' H' g' w' act' q hE hS' hR' => ?_))
    cases e with
    | normal => exact hC .normal a' H' g' w' act' q hE hS' hR'
    | exit i => exact hC (.exit i) a' H' g' w' act' q hE hS' hR'
    | ret => exact hC .ret a' H' g' w' act' q hE hS' hR'
  | label l =>
    intro Q Qc g w H act a hS hR hk hC
    exact wp_label (hC .normal a H g w act hk (Ext.refl _ _) hS hR)
  | ret =>
    intro Q Qc g w H act a hS hR hk hC
    exact wp_ret (hC .ret a H g w act hk (Ext.refl _ _) hS hR)
  | _ => intro Q Qc g w H act a hS hR hk; exact (stop_wp hk).elim
/-- What a function's end hands to its caller. -/
def APost (n : Nat) (rs : List RV) (K : AV → AHeap → Prop) : AExit → List AV → AHeap → Prop
  | .normal, a, H | .ret, a, H => ∃ y, ares H a rs = some y ∧ ARet n K y H
  | .exit _, _, _ => False
/-- A function's code told: so it answers. -/
structure Told (P : Program) (f : Nat) (n : Nat) (ac : ACode) (rs : List RV) : Prop where
  tell : ∃ fn c W, P.funcs[f]? = some fn ∧ fn.body = some c ∧ (fn.name == "runtime.NumGoroutine") = false ∧ fn.ntmps = n ∧ trC P W c = ac ∧ trRes P fn.results.toList = some rs
theorem acalls_of (hm : P.follows .mixedOrders = true) {f n : Nat} {ac : ACode} {rs : List RV} (hT : Told P f n ac rs) {args : List AV} {K : AV → AHeap → Prop}
    (h : H.within H.next → (∀ y ∈ args, y.under H.next) → awp (ACalls P) ac (APost H.next rs K) (args ++ List.replicate (n - args.length) .top) H) : ACalls P f args H K := by
  obtain ⟨fn, c, W, hf, hb, hname, hn, hc, hrs⟩ := hT.tell
  intro g w vs hS hR o act next Qc hnext
  have hrun : (callFunc f vs).run P w = .ok (.enter f vs) w := by
    simp only [callFunc, Sem.run_bind, run_program, Result.andThen_ok, hf, hname, hb, Option.isNone_some, Bool.false_eq_true, if_false, Sem.run_pure]
  rw [hrun, Oper.upon_enter]
  have hsc : H.within H.next := hS.within
  have hm1 : ∀ id gen b, g.m id gen = some b → id < H.next := fun i k b hb => (hS.mlt i k b hb).1
  have hargs : ∀ y ∈ args, y.under H.next := by
    intro y hy
    obtain ⟨i, hi⟩ := List.getElem?_of_mem hy
    have hlt : i < vs.size := by rw [hR.1]; exact (List.getElem?_eq_some_iff.1 hi).1
    exact (hR.2 i vs[i] y (Array.getElem?_eq_getElem hlt) hi).under hm1
  have hR0 : RepAct g w { tmps := vs ++ Array.replicate (fn.ntmps - vs.size) undef, defers := [] } (args ++ List.replicate (n - args.length) .top) := by
    refine ⟨rfl, by simp [hR.1, hn], fun i v y hv hy => ?_⟩
    by_cases hi : i < args.length
    · rw [List.getElem?_append_left hi] at hy
      rw [Array.getElem?_append_left (by rw [hR.1]; exact hi)] at hv
      exact hR.2 i v y hv hy
    · rw [List.getElem?_append_right (by omega), List.getElem?_replicate] at hy
      split at hy
      · obtain rfl := Option.some.inj hy; exact .top _
      · cases hy
  subst hc
  refine calls_of_wp hf hb (awp_sound hm c _ _ g w H _ _ hS hR0 (h hsc hargs) (fun e a' H' g' w' act' q hE hS' hR' => ?_))
  have fin : ∀ y, ares H' a' rs = some y → ARet H.next K y H' → act'.defers = [] ∧ ∃ v, (results fn act'.tmps).run P w' = .ok v w' ∧ next (act.put o.dst v) w' := by
    intro y hy hret
    obtain ⟨v, hv, hrep⟩ := run_results (P := P) hS' hR' hrs hy
    obtain ⟨H1, y1, m, h1, h2, h3, h4, h5⟩ := hret
    obtain ⟨g1, hE1, hS1, hr1⟩ := h1.sound hS' hrep
    have hcut := hS1.trunc h4
    refine ⟨hR'.defers, v, hv, hnext y1 _ (g1.cut m) w' v h5 ?_ hcut (hr1.cut h3)⟩
    have hE2 := hE.trans hE1
    refine ⟨fun id gen b hb => ?_, hE2.z, hE2.same, hE2.shape, hE2.size, hE2.os, hE2.tape, hE2.output, fun b hb q => hE2.known b hb (by
      rcases q with q | ⟨i, j, q⟩
      · exact .inl q
      · simp only [Ghost.cut] at q
        split at q
        · exact .inr ⟨i, j, q⟩
        · cases q), hE2.other⟩
    have := hm1 _ _ _ hb
    simp only [Ghost.cut]
    rw [if_pos (by omega)]
    exact hE2.m _ _ _ hb
  cases e with
  | normal => obtain ⟨y, h1, h2⟩ := q; exact fin y h1 h2
  | ret => obtain ⟨y, h1, h2⟩ := q; exact fin y h1 h2
  | exit i => exact q.elim
end
end Go.Proofs.YtmdgjfadbhenjaaGreatDoor.AL
/- Going through told code step by step: the same as AL12's 'awp', with what is still to come as a list, so that rewriting alone goes through it. -/
set_option linter.unusedVariables false
set_option linter.unusedSimpArgs false
namespace Go.Proofs.YtmdgjfadbhenjaaGreatDoor.AL
open Go
/-- What is still to come. -/
inductive Fr where
  | code (c : ACode)
  | blk (id : Nat)
  | cut (J : List AV → AHeap → Prop)
def stk (C : (Nat → List AV → AHeap → (AV → AHeap → Prop) → Prop)) : List Fr → (AExit → List AV → AHeap → Prop) → (AExit → List AV → AHeap → Prop)
  | [], Q => Q
  | .code y :: k, Q => fun e a H => match e with
    | .normal => awp C y (stk C k Q) a H
    | e => stk C k Q e a H
  | .blk id :: k, Q => fun e a H => match e with
    | .exit i => if i = id then stk C k Q .normal a H else stk C k Q (.exit i) a H
    | e => stk C k Q e a H
  | .cut J :: k, Q => fun e a H => match e with
    | .normal => J a H
    | e => stk C k Q e a H
def go (C : (Nat → List AV → AHeap → (AV → AHeap → Prop) → Prop)) (c : ACode) (k : List Fr) (a : List AV) (H : AHeap) (Q : (AExit → List AV → AHeap → Prop)) : Prop := awp C c (stk C k Q) a H
def nxt (C : (Nat → List AV → AHeap → (AV → AHeap → Prop) → Prop)) (k : List Fr) (a : List AV) (H : AHeap) (Q : (AExit → List AV → AHeap → Prop)) : Prop := stk C k Q .normal a H
def leave (C : (Nat → List AV → AHeap → (AV → AHeap → Prop) → Prop)) (i : Nat) (k : List Fr) (a : List AV) (H : AHeap) (Q : (AExit → List AV → AHeap → Prop)) : Prop := stk C k Q (.exit i) a H
def rtn (C : (Nat → List AV → AHeap → (AV → AHeap → Prop) → Prop)) (k : List Fr) (a : List AV) (H : AHeap) (Q : (AExit → List AV → AHeap → Prop)) : Prop := stk C k Q .ret a H
def rgn (C : (Nat → List AV → AHeap → (AV → AHeap → Prop) → Prop)) (ops : List AOper) (k : List Fr) (a : List AV) (H : AHeap) (Q : (AExit → List AV → AHeap → Prop)) : Prop := aops C ops a H fun a H => nxt C k a H Q
def rgY (C : (Nat → List AV → AHeap → (AV → AHeap → Prop) → Prop)) (l : List AOper) (k : List Fr) (d : Option Nat) (y : Option AV) (a : List AV) (H : AHeap) (Q : (AExit → List AV → AHeap → Prop)) : Prop :=
  match y with
  | some y => rgn C l k (aput a d y) H Q
  | none => False
def rgH (C : (Nat → List AV → AHeap → (AV → AHeap → Prop) → Prop)) (l : List AOper) (k : List Fr) (d : Option Nat) (y : Option AHeap) (a : List AV) (Q : (AExit → List AV → AHeap → Prop)) : Prop :=
  match y with
  | some H => rgn C l k (aput a d .top) H Q
  | none => False
def rgP (C : (Nat → List AV → AHeap → (AV → AHeap → Prop) → Prop)) (l : List AOper) (k : List Fr) (d : Option Nat) (y : Option (AV × AHeap)) (a : List AV) (Q : (AExit → List AV → AHeap → Prop)) : Prop :=
  match y with
  | some p => rgn C l k (aput a d p.1) p.2 Q
  | none => False
def rgF (C : (Nat → List AV → AHeap → (AV → AHeap → Prop) → Prop)) (l : List AOper) (k : List Fr) (p : Option (List AV × AHeap)) (Q : (AExit → List AV → AHeap → Prop)) : Prop :=
  match p with
  | some p => rgn C l k p.1 p.2 Q
  | none => False
def retTo (C : (Nat → List AV → AHeap → (AV → AHeap → Prop) → Prop)) (l : List AOper) (k : List Fr) (d : Option Nat) (a : List AV) (Q : (AExit → List AV → AHeap → Prop)) : AV → AHeap → Prop := fun y H => rgn C l k (aput a d y) H Q
def qcl (C : (Nat → List AV → AHeap → (AV → AHeap → Prop) → Prop)) (f : Nat) (args : List AV) (l : List AOper) (k : List Fr) (d : Option Nat) (a : List AV) (H : AHeap) (Q : (AExit → List AV → AHeap → Prop)) : Prop :=
  ∃ y, C f args H (fun y' H' => y' = y ∧ H' = H) ∧ rgn C l k (aput a d y) H Q
def qclV (C : (Nat → List AV → AHeap → (AV → AHeap → Prop) → Prop)) (x : AV) (args : List AV) (l : List AOper) (k : List Fr) (d : Option Nat) (a : List AV) (H : AHeap) (Q : (AExit → List AV → AHeap → Prop)) : Prop :=
  match x with
  | .func (.func f) fs cs => ∃ y, C f (fs ++ args ++ cs) H (fun y' H' => y' = y ∧ H' = H) ∧ rgn C l k (aput a d y) H Q
  | _ => False
def rgV (C : (Nat → List AV → AHeap → (AV → AHeap → Prop) → Prop)) (l : List AOper) (k : List Fr) (d : Option Nat) (x : AV) (args : List AV) (a : List AV) (H : AHeap) (Q : (AExit → List AV → AHeap → Prop)) : Prop :=
  match x with
  | .func (.func f) fs cs => C f (fs ++ args ++ cs) H (retTo C l k d a Q)
  | _ => False
def grd (C : (Nat → List AV → AHeap → (AV → AHeap → Prop) → Prop)) (op : AOp) (l : List AOper) (k : List Fr) (d : Option Nat) (want : Bool) (x : AV) (a : List AV) (H : AHeap) (Q : (AExit → List AV → AHeap → Prop)) : Prop :=
  match gdv x want with
  | some b => if b = true then rgn C (⟨d, op, none⟩ :: l) k a H Q else rgn C l k (aput a d (.tup [])) H Q
  | none => False
def cnd (C : (Nat → List AV → AHeap → (AV → AHeap → Prop) → Prop)) (x : AV) (c1 c2 : ACode) (k : List Fr) (a : List AV) (H : AHeap) (Q : (AExit → List AV → AHeap → Prop)) : Prop :=
  match x with
  | .bool b => if b = true then go C c1 k a H Q else go C c2 k a H Q
  | _ => False
def litAll (sz : Nat) : List AV → Bool
  | [] => true
  | x :: l => x.flat && x.cells.length == sz && litAll sz l
def amk (e : TypeId) (sz bytes : Nat) (z : List AV) (H : AHeap) : AV → Option (AV × AHeap)
  | .int .i64 n => if 0 ≤ n ∧ n.toNat * bytes ≤ 281474976710656 then some (.wr H.next 0 0 n.toNat sz, H.push (.row e 0 (List.replicate n.toNat z).flatten)) else none
  | _ => none
def as2b (e : TypeId) (H : AHeap) : AV → Option (AV × AHeap)
  | .str s => if s.size ≤ 9223372036854775807 then some (.wr H.next 0 0 s.size 1, H.push (.row e 0 (s.data.toList.map byteV))) else none
  | _ => none
section
variable {C : (Nat → List AV → AHeap → (AV → AHeap → Prop) → Prop)} {k : List Fr} {a : List AV} {H : AHeap} {Q : (AExit → List AV → AHeap → Prop)} {l : List AOper} {d : Option Nat}
theorem go_seq (x y : ACode) : go C (.seq x y) k a H Q = go C x (.code y :: k) a H Q := propext Iff.rfl
theorem go_both (x y : ACode) : go C (.both x y) k a H Q = (go C x k a H Q ∧ go C y k a H Q) := propext Iff.rfl
theorem go_skip : go C .skip k a H Q = nxt C k a H Q := propext Iff.rfl
theorem go_region (ops : List AOper) : go C (.region ops) k a H Q = rgn C ops k a H Q := propext Iff.rfl
theorem go_regionN (n : Nat) (ops : List AOper) : go C (.regionN n ops) k a H Q = (n ≤ a.length ∧ rgn C ops k a H Q) := propext Iff.rfl
theorem go_fregion (ts : List Nat) (ops : List AOper) : go C (.fregion ts ops) k a H Q = rgF C ops k (frzS ts a H) Q := by
  apply propext
  show (match frzS ts a H with
    | some (a', H') => aops C ops a' H' (stk C k Q .normal)
    | none => False) ↔ _
  cases h : frzS ts a H with
  | none => exact Iff.rfl
  | some p => exact Iff.rfl
theorem rgF_some (p : List AV × AHeap) : rgF C l k (some p) Q = rgn C l k p.1 p.2 Q := propext Iff.rfl
theorem go_cond (c : AX) (x y : ACode) : go C (.cond c x y) k a H Q = cnd C (c.ev a) x y k a H Q := propext Iff.rfl
theorem go_block (id : Nat) (c : ACode) : go C (.block id c) k a H Q = go C c (.blk id :: k) a H Q := propext Iff.rfl
theorem go_exit (i : Nat) : go C (.exit i) k a H Q = leave C i k a H Q := propext Iff.rfl
theorem go_ret : go C .ret k a H Q = rtn C k a H Q := propext Iff.rfl
theorem nxt_nil : nxt C [] a H Q = Q .normal a H := propext Iff.rfl
theorem nxt_code (y : ACode) : nxt C (.code y :: k) a H Q = go C y k a H Q := propext Iff.rfl
theorem nxt_blk (i : Nat) : nxt C (.blk i :: k) a H Q = nxt C k a H Q := propext Iff.rfl
theorem nxt_cut (J : List AV → AHeap → Prop) : nxt C (.cut J :: k) a H Q = J a H := propext Iff.rfl
theorem leave_nil (i : Nat) : leave C i [] a H Q = Q (.exit i) a H := propext Iff.rfl
theorem leave_code (i : Nat) (y : ACode) : leave C i (.code y :: k) a H Q = leave C i k a H Q := propext Iff.rfl
theorem leave_cut (i : Nat) (J : List AV → AHeap → Prop) : leave C i (.cut J :: k) a H Q = leave C i k a H Q := propext Iff.rfl
theorem leave_blk (i j : Nat) : leave C i (.blk j :: k) a H Q = if i = j then nxt C k a H Q else leave C i k a H Q := propext Iff.rfl
theorem rtn_nil : rtn C [] a H Q = Q .ret a H := propext Iff.rfl
theorem rtn_code (y : ACode) : rtn C (.code y :: k) a H Q = rtn C k a H Q := propext Iff.rfl
theorem rtn_blk (i : Nat) : rtn C (.blk i :: k) a H Q = rtn C k a H Q := propext Iff.rfl
theorem rtn_cut (J : List AV → AHeap → Prop) : rtn C (.cut J :: k) a H Q = rtn C k a H Q := propext Iff.rfl
theorem cnd_bool (b : Bool) (x y : ACode) : cnd C (.bool b) x y k a H Q = if b = true then go C x k a H Q else go C y k a H Q := propext Iff.rfl
theorem rgn_nil : rgn C [] k a H Q = nxt C k a H Q := propext Iff.rfl
theorem rgY_some (y : AV) : rgY C l k d (some y) a H Q = rgn C l k (aput a d y) H Q := propext Iff.rfl
theorem rgY_none : rgY C l k d none a H Q = False := propext Iff.rfl
theorem rgH_some (H' : AHeap) : rgH C l k d (some H') a Q = rgn C l k (aput a d .top) H' Q := propext Iff.rfl
theorem rgP_some (y : AV) (H' : AHeap) : rgP C l k d (some (y, H')) a Q = rgn C l k (aput a d y) H' Q := propext Iff.rfl
theorem retTo_is (y : AV) : retTo C l k d a Q y H = rgn C l k (aput a d y) H Q := propext Iff.rfl
theorem rgV_func (f : Nat) (fs cs args : List AV) : rgV C l k d (.func (.func f) fs cs) args a H Q = C f (fs ++ args ++ cs) H (retTo C l k d a Q) := propext Iff.rfl
theorem grd_tt (op : AOp) : grd C op l k d true (.bool true) a H Q = rgn C (⟨d, op, none⟩ :: l) k a H Q := propext Iff.rfl
theorem grd_ff (op : AOp) : grd C op l k d false (.bool false) a H Q = rgn C (⟨d, op, none⟩ :: l) k a H Q := propext Iff.rfl
theorem grd_und (op : AOp) (want : Bool) : grd C op l k d want (.tup []) a H Q = rgn C l k (aput a d (.tup [])) H Q := propext Iff.rfl
theorem grd_tf (op : AOp) : grd C op l k d true (.bool false) a H Q = rgn C l k (aput a d (.tup [])) H Q := propext Iff.rfl
theorem grd_ft (op : AOp) : grd C op l k d false (.bool true) a H Q = rgn C l k (aput a d (.tup [])) H Q := propext Iff.rfl
theorem cnd_t (x y : ACode) : cnd C (.bool true) x y k a H Q = go C x k a H Q := propext Iff.rfl
theorem cnd_f (x y : ACode) : cnd C (.bool false) x y k a H Q = go C y k a H Q := propext Iff.rfl
theorem rgn_q (q : QOp) : rgn C (⟨d, .q q, none⟩ :: l) k a H Q = rgY C l k d (aq H (AX.ev a) q) a H Q := by
  apply propext
  show (∃ y, aq H (AX.ev a) q = some y ∧ rgn C l k (aput a d y) H Q) ↔ _
  cases h : aq H (AX.ev a) q with
  | none => simp [rgY]
  | some y => simp [rgY]
theorem rgn_alloc (e : TypeId) (z : List AV) : rgn C (⟨d, .s (.alloc e z), none⟩ :: l) k a H Q = rgn C l k (aput a d (.ptr H.next 0 0)) (H.push (.row e 0 z)) Q := propext Iff.rfl
theorem rgn_box (e : TypeId) (x : AX) : rgn C (⟨d, .s (.box e x), none⟩ :: l) k a H Q = ((x.ev a).flat = true ∧ rgn C l k (aput a d (.ptr H.next 0 0)) (H.push (.row e 0 (x.ev a).cells)) Q) := propext Iff.rfl
theorem rgn_store (n : Nat) (x v : AX) : rgn C (⟨d, .s (.store n x v), none⟩ :: l) k a H Q = rgH C l k d (astore H n (v.ev a) (x.ev a)) a Q := by
  apply propext
  show (∃ H', astore H n (v.ev a) (x.ev a) = some H' ∧ rgn C l k (aput a d .top) H' Q) ↔ _
  cases h : astore H n (v.ev a) (x.ev a) with
  | none => simp [rgH]
  | some y => simp [rgH]
theorem litAll_is (sz : Nat) : ∀ (l : List AV), litAll sz l = true ↔ ∀ p ∈ l, p.flat = true ∧ p.cells.length = sz
  | [] => by simp [litAll]
  | x :: l => by
    simp only [litAll, Bool.and_eq_true, beq_iff_eq, litAll_is sz l, List.mem_cons, forall_eq_or_imp]
def litCells : List AV → List AV
  | [] => []
  | x :: l => x.cells ++ litCells l
theorem litCells_nil : litCells [] = [] := rfl
theorem litCells_cons (x : AV) (l : List AV) : litCells (x :: l) = x.cells ++ litCells l := rfl
theorem litCells_is : ∀ (l : List AV), litCells l = l.flatMap AV.cells
  | [] => rfl
  | x :: l => by rw [litCells_cons, litCells_is l, List.flatMap_cons]
theorem rgn_litw (e : TypeId) (sz : Nat) (ps : List AX) : rgn C (⟨d, .s (.litw e sz ps), none⟩ :: l) k a H Q = (litAll sz (ps.map (AX.ev a)) = true ∧ rgn C l k (aput a d (.wr H.next 0 0 ps.length sz)) (H.push (.row e 0 (litCells (ps.map (AX.ev a))))) Q) := by
  rw [litAll_is, litCells_is]
  apply propext
  show ((∀ p ∈ ps, _) ∧ _) ↔ _
  simp only [List.mem_map, forall_exists_index, and_imp, forall_apply_eq_imp_iff₂]
  rfl
theorem rgn_litc (e : TypeId) (sz : Nat) (ps : List AX) : rgn C (⟨d, .s (.litc e sz ps), none⟩ :: l) k a H Q = (litAll sz (ps.map (AX.ev a)) = true ∧ rgn C l k (aput a d (.wc H.next 0 0 ps.length ps.length sz)) (H.push (.row e 0 (litCells (ps.map (AX.ev a))))) Q) := by
  rw [litAll_is, litCells_is]
  apply propext
  show ((∀ p ∈ ps, _) ∧ _) ↔ _
  simp only [List.mem_map, forall_exists_index, and_imp, forall_apply_eq_imp_iff₂]
  rfl
theorem rgn_lit (e : TypeId) (sz : Nat) (ps : List AX) : rgn C (⟨d, .s (.lit e sz ps), none⟩ :: l) k a H Q = (litAll sz (ps.map (AX.ev a)) = true ∧ rgn C l k (aput a d (.imm sz (ps.map (AX.ev a)))) H Q) := by
  rw [litAll_is]
  apply propext
  show ((∀ p ∈ ps, _) ∧ _) ↔ _
  simp only [List.mem_map, forall_exists_index, and_imp, forall_apply_eq_imp_iff₂]
  rfl
theorem rgn_app (e : TypeId) (sz b : Nat) (s x : AX) : rgn C (⟨d, .s (.app e sz b s x), none⟩ :: l) k a H Q = rgP C l k d (aapp e sz b H (s.ev a) (x.ev a)) a Q := by
  apply propext
  show (∃ y H', aapp e sz b H (s.ev a) (x.ev a) = some (y, H') ∧ rgn C l k (aput a d y) H' Q) ↔ _
  cases h : aapp e sz b H (s.ev a) (x.ev a) with
  | none => simp [rgP]
  | some y =>
    obtain ⟨y, H'⟩ := y
    exact ⟨fun ⟨y2, H2, h1, h2⟩ => by cases h1; exact h2, fun h => ⟨y, H', rfl, h⟩⟩
theorem rgn_copy (sz : Nat) (s x : AX) : rgn C (⟨d, .s (.copy sz s x), none⟩ :: l) k a H Q = rgP C l k d (acopy sz H (s.ev a) (x.ev a)) a Q := by
  apply propext
  show (∃ y H', acopy sz H (s.ev a) (x.ev a) = some (y, H') ∧ rgn C l k (aput a d y) H' Q) ↔ _
  cases h : acopy sz H (s.ev a) (x.ev a) with
  | none => simp [rgP]
  | some y =>
    obtain ⟨y, H'⟩ := y
    exact ⟨fun ⟨y2, H2, h1, h2⟩ => by cases h1; exact h2, fun h => ⟨y, H', rfl, h⟩⟩
theorem rgn_mk (e : TypeId) (sz b : Nat) (z : List AV) (n : AX) : rgn C (⟨d, .s (.mk e sz b z n), none⟩ :: l) k a H Q = rgP C l k d (amk e sz b z H (n.ev a)) a Q := by
  apply propext
  show (∃ m : Nat, n.ev a = .int .i64 m ∧ m * b ≤ 281474976710656 ∧ rgn C l k (aput a d (.wr H.next 0 0 m sz)) (H.push (.row e 0 (List.replicate m z).flatten)) Q) ↔ _
  constructor
  · rintro ⟨m, h1, h2, h3⟩
    simp [amk, h1, h2, rgP, h3]
  · intro h
    unfold amk rgP at h
    split at h <;> (try (exact h.elim))
    rename_i p hp
    split at hp <;> (try (cases hp; done))
    rename_i n' hn
    split at hp <;> (try (cases hp; done))
    rename_i hc
    obtain rfl := Option.some.inj hp
    exact ⟨n'.toNat, by rw [hn, Int.toNat_of_nonneg hc.1], hc.2, h⟩
theorem rgn_s2b (e : TypeId) (x : AX) : rgn C (⟨d, .s (.s2b e x), none⟩ :: l) k a H Q = rgP C l k d (as2b e H (x.ev a)) a Q := by
  apply propext
  show (∃ s, x.ev a = .str s ∧ s.size ≤ 9223372036854775807 ∧ rgn C l k (aput a d (.wr H.next 0 0 s.size 1)) (H.push (.row e 0 (s.data.toList.map fun b => .int .u8 (b.toNat : Int)))) Q) ↔ _
  constructor
  · rintro ⟨s, h1, h2, h3⟩
    rw [h1]
    simp only [as2b, if_pos h2]
    exact h3
  · intro h
    unfold as2b rgP at h
    split at h <;> (try (exact h.elim))
    rename_i p hp
    split at hp <;> (try (cases hp; done))
    rename_i s hs
    split at hp <;> (try (cases hp; done))
    rename_i hc
    obtain rfl := Option.some.inj hp
    exact ⟨s, hs, hc, h⟩
theorem rgn_call (f : Nat) (args : List AX) : rgn C (⟨d, .s (.call f args), none⟩ :: l) k a H Q = C f (args.map (AX.ev a)) H (retTo C l k d a Q) := propext Iff.rfl
theorem rgn_put (e : TypeId) (n : Nat) (x : AX) : rgn C (⟨d, .s (.put e n x), none⟩ :: l) k a H Q = (((x.ev a).flat = true ∧ (x.ev a).cells.all AV.one = true ∧ (x.ev a).cells.length = n) ∧ rgn C l k (aput a d (.ptr H.next 0 0)) (H.push (.row e 0 (x.ev a).cells)) Q) := propext Iff.rfl
theorem rgn_slice3 (sz : Nat) (x hi mx : AX) : rgn C (⟨d, .s (.slice3 sz x hi mx), none⟩ :: l) k a H Q = rgY C l k d (aslice3 sz (x.ev a) (hi.ev a) (mx.ev a)) a H Q := by
  apply propext
  show (∃ y, aslice3 sz (x.ev a) (hi.ev a) (mx.ev a) = some y ∧ rgn C l k (aput a d y) H Q) ↔ _
  cases h : aslice3 sz (x.ev a) (hi.ev a) (mx.ev a) with
  | none => simp [rgY]
  | some y => simp [rgY]
theorem rgn_slice3l (sz : Nat) (x lo hi mx : AX) : rgn C (⟨d, .s (.slice3l sz x lo hi mx), none⟩ :: l) k a H Q = rgY C l k d (aslice3l sz (x.ev a) (lo.ev a) (hi.ev a) (mx.ev a)) a H Q := by
  apply propext
  show (∃ y, aslice3l sz (x.ev a) (lo.ev a) (hi.ev a) (mx.ev a) = some y ∧ rgn C l k (aput a d y) H Q) ↔ _
  cases h : aslice3l sz (x.ev a) (lo.ev a) (hi.ev a) (mx.ev a) with
  | none => simp [rgY]
  | some y => simp [rgY]
theorem rgn_appz (e : TypeId) (sz b : Nat) (z : List AV) (s x : AX) : rgn C (⟨d, .s (.appz e sz b z s x), none⟩ :: l) k a H Q = rgP C l k d (aappz e sz b z H (s.ev a) (x.ev a)) a Q := by
  apply propext
  show (∃ y H', aappz e sz b z H (s.ev a) (x.ev a) = some (y, H') ∧ rgn C l k (aput a d y) H' Q) ↔ _
  cases h : aappz e sz b z H (s.ev a) (x.ev a) with
  | none => simp [rgP]
  | some y =>
    obtain ⟨y, H'⟩ := y
    exact ⟨fun ⟨y2, H2, h1, h2⟩ => by cases h1; exact h2, fun h => ⟨y, H', rfl, h⟩⟩
theorem rgn_range (x : AX) : rgn C (⟨d, .s (.range x), none⟩ :: l) k a H Q = rgP C l k d (arange H (x.ev a)) a Q := by
  apply propext
  show (∃ y H', arange H (x.ev a) = some (y, H') ∧ rgn C l k (aput a d y) H' Q) ↔ _
  cases h : arange H (x.ev a) with
  | none => simp [rgP]
  | some y =>
    obtain ⟨y, H'⟩ := y
    exact ⟨fun ⟨y2, H2, h1, h2⟩ => by cases h1; exact h2, fun h => ⟨y, H', rfl, h⟩⟩
theorem rgn_next (x : AX) : rgn C (⟨d, .s (.next x), none⟩ :: l) k a H Q = rgP C l k d (anext H (x.ev a)) a Q := by
  apply propext
  show (∃ y H', anext H (x.ev a) = some (y, H') ∧ rgn C l k (aput a d y) H' Q) ↔ _
  cases h : anext H (x.ev a) with
  | none => simp [rgP]
  | some y =>
    obtain ⟨y, H'⟩ := y
    exact ⟨fun ⟨y2, H2, h1, h2⟩ => by cases h1; exact h2, fun h => ⟨y, H', rfl, h⟩⟩
theorem rgn_clear (sz : Nat) (z : List AV) (x : AX) : rgn C (⟨d, .s (.clear sz z x), none⟩ :: l) k a H Q = rgH C l k d (aclear sz z H (x.ev a)) a Q := by
  apply propext
  show (∃ H', aclear sz z H (x.ev a) = some H' ∧ rgn C l k (aput a d .top) H' Q) ↔ _
  cases h : aclear sz z H (x.ev a) with
  | none => simp [rgH]
  | some y => exact ⟨fun ⟨y2, h1, h2⟩ => by cases h1; exact h2, fun h => ⟨y, rfl, h⟩⟩
theorem rgn_stop : rgn C (⟨d, .s .stop, none⟩ :: l) k a H Q = False := propext Iff.rfl
theorem rgn_mkmap : rgn C (⟨d, .s .mkmap, none⟩ :: l) k a H Q = rgn C l k (aput a d (.map H.next)) (H.push (.map [])) Q := propext Iff.rfl
theorem rgn_lookup (str : Bool) (z : AV) (ok : Bool) (m x : AX) : rgn C (⟨d, .s (.lookup str z ok m x), none⟩ :: l) k a H Q = rgY C l k d (alookup H str z ok (x.ev a) (m.ev a)) a H Q := by
  apply propext
  show (∃ y, alookup H str z ok (x.ev a) (m.ev a) = some y ∧ rgn C l k (aput a d y) H Q) ↔ _
  cases h : alookup H str z ok (x.ev a) (m.ev a) with
  | none => simp [rgY]
  | some y => simp [rgY]
theorem rgn_mapup (str : Bool) (m x v : AX) : rgn C (⟨d, .s (.mapup str m x v), none⟩ :: l) k a H Q = rgH C l k d (amapup H str (x.ev a) (v.ev a) (m.ev a)) a Q := by
  apply propext
  show (∃ H', amapup H str (x.ev a) (v.ev a) (m.ev a) = some H' ∧ rgn C l k (aput a d .top) H' Q) ↔ _
  cases h : amapup H str (x.ev a) (v.ev a) (m.ev a) with
  | none => simp [rgH]
  | some y => simp [rgH]
theorem alookup_nilm (str : Bool) (z : AV) (ok : Bool) (x : AV) : alookup H str z ok x .nilm = some (afound ok false z) := rfl
theorem alookup_map (str : Bool) (z : AV) (ok : Bool) (x : AV) (id : Nat) : alookup H str z ok x (.map id) = (match H.get id with
    | some (.map es) => (match amget str x es with
      | some (some v) => some (afound ok true v)
      | some none => some (afound ok false z)
      | none => none)
    | _ => none) := rfl
theorem amapup_map (str : Bool) (x v : AV) (id : Nat) : amapup H str x v (.map id) = (match H.get id with
    | some (.map es) => (amset str x v es).map fun es => H.set id (.map es)
    | _ => none) := rfl
theorem afound_ok (b : Bool) (v : AV) : afound true b v = .tup [v, .bool b] := rfl
theorem afound_no (b : Bool) (v : AV) : afound false b v = v := rfl
theorem rgn_callv (x : AX) (args : List AX) : rgn C (⟨d, .s (.callv x args), none⟩ :: l) k a H Q = rgV C l k d (x.ev a) (args.map (AX.ev a)) a H Q := propext Iff.rfl
theorem rgn_c (f : Nat) (args : List AX) : rgn C (⟨d, .c (.fn f) args, none⟩ :: l) k a H Q = qcl C f (args.map (AX.ev a)) l k d a H Q := propext Iff.rfl
theorem rgn_cv (x : AX) (args : List AX) : rgn C (⟨d, .c (.val x) args, none⟩ :: l) k a H Q = qclV C (x.ev a) (args.map (AX.ev a)) l k d a H Q := by
  apply propext
  show (∃ y, ccall C (AX.ev a) (.val x) args H (fun y' H' => y' = y ∧ H' = H) ∧ rgn C l k (aput a d y) H Q) ↔ _
  simp only [ccall]
  generalize AX.ev a x = v
  cases v with
  | func fn fs cs =>
    cases fn with
    | func f => exact Iff.rfl
    | _ => simp [qclV]
  | _ => simp [qclV]
theorem qclV_func (f : Nat) (fs cs args : List AV) : qclV C (.func (.func f) fs cs) args l k d a H Q = qcl C f (fs ++ args ++ cs) l k d a H Q := propext Iff.rfl
theorem rgn_guard (op : AOp) (t : Nat) (want : Bool) : rgn C (⟨d, op, some (t, want)⟩ :: l) k a H Q = grd C op l k d want (a.getD t .top) a H Q := by
  have hq : rgn C (⟨d, op, some (t, want)⟩ :: l) k a H Q = (match gdv (a.getD t .top) want with
    | some b => agop C op b a H fun y H' => rgn C l k (aput a d y) H' Q
    | none => False) := rfl
  rw [hq]
  unfold grd
  generalize gdv (a.getD t .top) want = x
  cases x <;> try rfl
  rename_i b
  simp only
  by_cases hb : b = true
  · subst hb
    rw [if_pos rfl]
    have hz : rgn C (⟨d, op, none⟩ :: l) k a H Q = aop C op a H fun y H' => rgn C l k (aput a d y) H' Q := rfl
    rw [hz]
    cases op with
    | q q =>
      apply propext
      simp only [agop, aop, if_true]
      cases h : aq H (AX.ev a) q with
      | none => simp
      | some y => simp
    | s s => rfl
    | c f args =>
      apply propext
      simp only [agop, aop, if_true, forall_const, true_implies]
  · rw [if_neg hb, show b = false by simpa using hb]
    cases op with
    | q q =>
      apply propext
      simp [agop]
    | s s => rfl
    | c f args =>
      apply propext
      simp only [agop, Bool.false_eq_true, if_false, false_implies, true_and]
      exact ⟨fun ⟨_, h⟩ => h, fun h => ⟨.top, h⟩⟩
theorem awp_mono (hC : Mono C) : ∀ (c : ACode) (Q Q' : (AExit → List AV → AHeap → Prop)) (a : List AV) (H : AHeap), (∀ e a H, Q e a H → Q' e a H) → awp C c Q a H → awp C c Q' a H := by
  have hops : ∀ (l : List AOper) (K K' : List AV → AHeap → Prop) (a : List AV) (H : AHeap), (∀ a H, K a H → K' a H) → aops C l a H K → aops C l a H K' := by
    intro l
    induction l with
    | nil => exact fun K K' a H hk h => hk _ _ h
    | cons o l ih => exact fun K K' a H hk h => astep_mono hC (fun a' H' q => ih K K' a' H' hk q) h
  intro c
  induction c with
  | skip => exact fun Q Q' a H hq h => hq _ _ _ h
  | region ops => exact fun Q Q' a H hq h => hops ops _ _ a H (fun a H q => hq _ _ _ q) h
  | regionN n ops => exact fun Q Q' a H hq h => ⟨h.1, hops ops _ _ a H (fun a H q => hq _ _ _ q) h.2⟩
  | fregion ts ops =>
    intro Q Q' a H hq h
    simp only [awp] at h ⊢
    split at h
    · exact hops ops _ _ _ _ (fun a H q => hq _ _ _ q) h
    · exact h
  | seq x y ihx ihy =>
    refine fun Q Q' a H hq h => ihx _ _ a H (fun e a H q => ?_) h
    cases e with
    | normal => exact ihy _ _ a H hq q
    | exit i => exact hq _ _ _ q
    | ret => exact hq _ _ _ q
  | both x y ihx ihy => exact fun Q Q' a H hq h => ⟨ihx Q Q' a H hq h.1, ihy Q Q' a H hq h.2⟩
  | cond c x y ihx ihy =>
    intro Q Q' a H hq h
    simp only [awp] at h ⊢
    split at h <;> (try (exact h.elim))
    rename_i b hb
    cases b with
    | true => rw [if_pos rfl] at h ⊢; exact ihx _ _ a H hq h
    | false => rw [if_neg (by simp)] at h ⊢; exact ihy _ _ a H hq h
  | block id c ih =>
    refine fun Q Q' a H hq h => ih _ _ a H (fun e a H q => ?_) h
    cases e with
    | normal => exact hq _ _ _ q
    | exit i =>
      simp only at q ⊢
      split at q
      · rename_i hi; rw [if_pos hi]; exact hq _ _ _ q
      · rename_i hi; rw [if_neg hi]; exact hq _ _ _ q
    | ret => exact hq _ _ _ q
  | loop c ih =>
    rintro Q Q' a H hq ⟨I, μ, h1, h2⟩
    refine ⟨I, μ, h1, fun a H hi => ih _ _ a H (fun e a' H' q => ?_) (h2 a H hi)⟩
    cases e with
    | normal => exact q
    | exit i => exact hq _ _ _ q
    | ret => exact hq _ _ _ q
  | exit i => exact fun Q Q' a H hq h => hq _ _ _ h
  | ret => exact fun Q Q' a H hq h => hq _ _ _ h
/-- A loop: its rounds' states are told by what σ says. -/
theorem go_loop (hC : Mono C) {σ : Type} (st : σ → List AV) (hh : σ → AHeap) (ok : σ → Prop) (μ : σ → Nat) (s0 : σ) {c : ACode} (h0 : Forget a (st s0)) (hH : H = hh s0) (hok : ok s0)
    (round : ∀ s, ok s → ∀ J : List AV → AHeap → Prop, (∀ s' a', ok s' → μ s' < μ s → Forget a' (st s') → J a' (hh s')) → go C c (.cut J :: k) (st s) (hh s) Q) : go C (.loop c) k a H Q := by
  subst hH
  refine ⟨fun a H => ∃ n s, ok s ∧ a = st s ∧ H = hh s ∧ μ s = n, fun a H => leastOf (fun n => ∃ s, ok s ∧ a = st s ∧ H = hh s ∧ μ s = n), ⟨st s0, h0, μ s0, s0, hok, rfl, rfl, rfl⟩, fun a1 H1 hI => ?_⟩
  obtain ⟨⟨s, hs, rfl, rfl, hn⟩, hmin⟩ := leastOf_spec hI
  refine awp_mono hC _ _ _ _ _ (fun e a' H' q => ?_) (round s hs (fun a' H' => ∃ s', ok s' ∧ μ s' < μ s ∧ Forget a' (st s') ∧ H' = hh s') (fun s' a' h1 h2 h3 => ⟨s', h1, h2, h3, rfl⟩))
  cases e with
  | normal =>
    obtain ⟨s', h1, h2, h3, rfl⟩ := q
    refine ⟨st s', h3, ⟨μ s', s', h1, rfl, rfl, rfl⟩, ?_⟩
    show leastOf (fun n => ∃ s_1, ok s_1 ∧ st s' = st s_1 ∧ hh s' = hh s_1 ∧ μ s_1 = n) < leastOf (fun n => ∃ s_1, ok s_1 ∧ st s = st s_1 ∧ hh s = hh s_1 ∧ μ s_1 = n)
    rw [← hn]
    exact Nat.lt_of_le_of_lt ((leastOf_spec ⟨μ s', s', h1, rfl, rfl, rfl⟩).2 _ ⟨s', h1, rfl, rfl, rfl⟩) h2
  | exit i => exact q
  | ret => exact q
/-- A loop of few rounds, gone through one by one. -/
def rnds (C : (Nat → List AV → AHeap → (AV → AHeap → Prop) → Prop)) (c : ACode) (k : List Fr) (Q : (AExit → List AV → AHeap → Prop)) : Nat → List AV → AHeap → Prop
  | 0, _, _ => False
  | n + 1, a, H => go C c (.cut (rnds C c k Q n) :: k) a H Q
theorem rnds_succ (c : ACode) (n : Nat) : rnds C c k Q (n + 1) a H = go C c (.cut (rnds C c k Q n) :: k) a H Q := propext Iff.rfl
theorem go_rounds (hC : Mono C) {c : ACode} (n : Nat) (h : rnds C c k Q n a H) : go C (.loop c) k a H Q := by
  refine ⟨fun a H => ∃ n, rnds C c k Q n a H, fun a H => leastOf (fun n => rnds C c k Q n a H), ⟨a, ⟨rfl, fun i y z h1 h2 => by rw [h1] at h2; exact .inl (Option.some.inj h2).symm⟩, n, h⟩, fun a1 H1 hI => ?_⟩
  obtain ⟨hs, hmin⟩ := leastOf_spec hI
  generalize hn : leastOf (fun n => rnds C c k Q n a1 H1) = m at hs
  cases m with
  | zero => exact hs.elim
  | succ m =>
    refine awp_mono hC _ _ _ _ _ (fun e a' H' q => ?_) hs
    cases e with
    | normal =>
      refine ⟨a', ⟨rfl, fun i y z h1 h2 => by rw [h1] at h2; exact .inl (Option.some.inj h2).symm⟩, ⟨m, q⟩, ?_⟩
      show leastOf (fun n => rnds C c k Q n a' H') < leastOf (fun n => rnds C c k Q n a1 H1)
      rw [hn]
      exact Nat.lt_of_le_of_lt ((leastOf_spec ⟨m, q⟩).2 _ q) (Nat.lt_succ_self m)
    | exit i => exact q
    | ret => exact q
theorem cnd_split {b : Bool} {x y : ACode} (h1 : b = true → go C x k a H Q) (h2 : b = false → go C y k a H Q) : cnd C (.bool b) x y k a H Q := by
  cases b with
  | true => rw [cnd_bool, if_pos rfl]; exact h1 rfl
  | false => rw [cnd_bool, if_neg (by simp)]; exact h2 rfl
end
/-! ### rows of one's own -/
def hp (H : AHeap) (l : List AObj) : AHeap where
  next := H.next + l.length
  get i := if i < H.next then H.get i else l[i - H.next]?
  wf i hi := by
    rw [if_neg (by omega)]
    exact List.getElem?_eq_none (by omega)
section
variable (H : AHeap) (l m : List AObj) (o : AObj) (i : Nat)
theorem hp_nil : hp H [] = H := by
  apply AHeap.ext'
  · rfl
  · intro i
    simp only [hp]
    split
    · rfl
    · exact (H.wf i (by omega)).symm
theorem hp_next : (hp H l).next = H.next + l.length := rfl
theorem hp_push : (hp H l).push o = hp H (l ++ [o]) := by
  apply AHeap.ext'
  · simp [hp, AHeap.push, Nat.add_assoc]
  · intro i
    simp only [hp, AHeap.push]
    by_cases h1 : i < H.next
    · simp [h1, show i ≠ H.next + l.length by omega]
    · by_cases h2 : i = H.next + l.length
      · subst h2; simp; omega
      · simp only [h1, h2, if_false]
        by_cases h3 : i - H.next < l.length
        · rw [List.getElem?_append_left h3]
        · rw [List.getElem?_append_right (by omega), List.getElem?_eq_none (by omega), List.getElem?_eq_none (by simp; omega)]
theorem hp_get : (hp H l).get (H.next + i) = l[i]? := by simp [hp]; omega
theorem hp_get_old (h : i < H.next) : (hp H l).get i = H.get i := by simp [hp, h]
theorem hp_set : (hp H l).set (H.next + i) o = hp H (l.set i o) := by
  apply AHeap.ext'
  · simp [hp, AHeap.set]
  · intro j
    simp only [hp, AHeap.set]
    by_cases h1 : j < H.next
    · simp [h1, show j ≠ H.next + i by omega]
    · by_cases h2 : j = H.next + i
      · subst h2
        simp only [Nat.add_lt_add_iff_left, true_and, Nat.not_lt.2 (Nat.le_add_right _ _), if_false, Nat.add_sub_cancel_left]
        by_cases h3 : i < l.length
        · rw [if_pos h3, List.getElem?_set_self h3]
        · rw [if_neg h3, List.getElem?_eq_none (by omega), List.getElem?_eq_none (by simp; omega)]
      · simp only [h1, h2, false_and, if_false]
        rw [List.getElem?_set_ne (by omega)]
theorem hp_set_old (h : i < H.next) : (hp H l).set i o = hp (H.set i o) l := by
  apply AHeap.ext'
  · simp [hp, AHeap.set]
  · intro j
    simp only [hp, AHeap.set]
    by_cases h1 : j < H.next
    · by_cases h2 : j = i
      · subst h2; simp [h1, show j < H.next + l.length by omega]
      · simp [h1, h2]
    · simp [h1, show j ≠ i by omega]
theorem hp_trunc : (hp H l).trunc H.next = H := by
  apply AHeap.ext'
  · simp [hp, AHeap.trunc]
  · intro j
    simp only [hp, AHeap.trunc]
    split
    · rfl
    · exact (H.wf j (by omega)).symm
theorem hp_within (hs : H.within H.next) : (hp H l).within H.next := by
  intro id o h1 h2
  rw [hp_get_old _ _ _ h1] at h2
  exact hs id o h1 h2
end
/-! ### from calls, and to them -/
section
variable {P : Program} {H : AHeap} {rs : List RV} {n : Nat} {K : AV → AHeap → Prop} {a : List AV}
/-- Slots of which nothing is known. -/
def tops : Nat → List AV
  | 0 => []
  | n + 1 => .top :: tops n
theorem tops_zero : tops 0 = [] := rfl
theorem tops_succ (n : Nat) : tops (n + 1) = .top :: tops n := rfl
theorem tops_is : ∀ n, tops n = List.replicate n .top
  | 0 => rfl
  | n + 1 => by rw [tops_succ, tops_is n]; rfl
theorem acalls_go (hm : P.follows .mixedOrders = true) {f m : Nat} {ac : ACode} (hT : Told P f m ac rs) {args : List AV}
    (h : H.within H.next → (∀ y ∈ args, y.under H.next) → go (ACalls P) ac [] (args ++ tops (m - args.length)) (hp H []) (APost H.next rs K)) : ACalls P f args H K := by
  refine acalls_of hm hT (fun h1 h2 => ?_)
  have := h h1 h2
  rw [hp_nil, tops_is] at this
  exact this
def retY (n : Nat) (K : AV → AHeap → Prop) (y : Option AV) (H : AHeap) : Prop :=
  match y with
  | some y => ARet n K y H
  | none => False
theorem retY_some (y : AV) : retY n K (some y) H = ARet n K y H := propext Iff.rfl
theorem post_ret : APost n rs K .ret a H = retY n K (ares H a rs) H := by
  apply propext
  show (∃ y, ares H a rs = some y ∧ ARet n K y H) ↔ _
  cases h : ares H a rs with
  | none => simp [retY]
  | some y => simp [retY]
theorem post_normal : APost n rs K .normal a H = retY n K (ares H a rs) H := post_ret
/-- A result that leads to no row of one's own. -/
theorem aret_plain {l : List AObj} {y : AV} (hs : H.within H.next) (hy : y.under H.next) (hk : K y H) : ARet H.next K y (hp H l) :=
  ⟨hp H l, y, H.next, .refl _ _, Nat.le_refl _, hy, hp_within _ _ hs, by rw [hp_trunc]; exact hk⟩
theorem forget_nil : Forget [] [] := ⟨rfl, fun i y z h => by simp at h⟩
theorem forget_keep {y : AV} {l m : List AV} (h : Forget l m) : Forget (y :: l) (y :: m) :=
  ⟨by simp [h.1], fun i u z h1 h2 => by
    cases i with
    | zero => simp at h1 h2; subst h1; subst h2; exact .inl rfl
    | succ i => exact h.2 i u z (by simpa using h1) (by simpa using h2)⟩
theorem forget_top {y : AV} {l m : List AV} (h : Forget l m) : Forget (y :: l) (.top :: m) :=
  ⟨by simp [h.1], fun i u z h1 h2 => by
    cases i with
    | zero => simp at h1 h2; subst h1; subst h2; exact .inr rfl
    | succ i => exact h.2 i u z (by simpa using h1) (by simpa using h2)⟩
end
end Go.Proofs.YtmdgjfadbhenjaaGreatDoor.AL
/- Results that are rows of one's own; slices that grow by appending. -/
set_option linter.unusedVariables false
set_option linter.unusedSimpArgs false
namespace Go.Proofs.YtmdgjfadbhenjaaGreatDoor.AL
open Go
section
variable {P : Program} {H H0 H1 : AHeap} {K : AV → AHeap → Prop} {l : List AObj}
/-- Nothing but rows of one's own differs. -/
def Own (H H1 : AHeap) : Prop := H1.trunc H.next = H ∧ (H.within H.next → H1.within H.next)
theorem own_hp : Own H (hp H l) := ⟨hp_trunc _ _, hp_within _ _⟩
theorem own_kill (i : Nat) (h : Own H H1) : Own H (H1.kill (H.next + i)) := by
  refine ⟨by rw [trunc_kill _ _ _ (by omega)]; exact h.1, fun hs id o hid ho => ?_⟩
  rw [kill_get_ne _ _ _ (by omega)] at ho
  exact h.2 hs id o hid ho
theorem aret_own {y y1 : AV} (hS : Shut H0 y H1 y1) (ho : Own H H1) (hs : H.within H.next) (hu : y1.under H.next) (hk : K y1 H) : ARet H.next K y H0 :=
  ⟨H1, y1, H.next, hS, Nat.le_refl _, hu, ho.2 hs, by rw [ho.1]; exact hk⟩
theorem shut_wr {i gen len sz : Nat} {e : TypeId} {cs xs : List AV} (hrow : l[i]? = some (.row e gen cs)) (hx : ∀ x ∈ xs, x.cells.length = sz) (hn : xs.length = len) (hc : cs = xs.flatMap AV.cells) :
    Shut (hp H l) (.wr (H.next + i) gen 0 len sz) ((hp H l).kill (H.next + i)) (.imm sz xs) := by
  refine .row _ _ _ _ _ _ e cs xs (by rw [hp_get, hrow]) hx hn ?_
  subst hc
  rw [List.drop_zero, List.take_of_length_le]
  rw [flat_length _ _ hx, hn]
  exact Nat.le_refl _
theorem flat_one : ∀ (xs : List AV), (∀ x ∈ xs, x.cells = [x]) → xs.flatMap AV.cells = xs
  | [], _ => rfl
  | x :: xs, h => by
    rw [List.flatMap_cons, h x (by simp), flat_one xs (fun y hy => h y (by simp [hy]))]
    rfl
/-- A list's elements as one-celled values. -/
theorem map_one {α : Type} (f : α → AV) (hf : ∀ a, (f a).cells = [f a]) (xs : List α) : (xs.map f).flatMap AV.cells = xs.map f :=
  flat_one _ (fun x hx => by obtain ⟨a, _, rfl⟩ := List.mem_map.1 hx; exact hf a)
theorem under_map {α : Type} (f : α → AV) (hf : ∀ a, (f a).cells = [f a]) (n : Nat) (hu : ∀ a, (f a).under n) (sz : Nat) (xs : List α) : (AV.imm sz (xs.map f)).under n :=
  .imm _ _ (fun x hx c hc => by
    obtain ⟨a, _, rfl⟩ := List.mem_map.1 hx
    rw [hf a] at hc
    obtain rfl := List.mem_singleton.1 hc
    exact hu a)
/-- A slice that has grown k times by m elements, and its row. -/
def slv (n m sz : Nat) : Nat → AV
  | 0 => .nils
  | k + 1 => .wr n k 0 ((k + 1) * m) sz
def slh (e : TypeId) : Nat → List AV → List AObj
  | 0, _ => []
  | k + 1, cs => [.row e k cs]
theorem aapp_slv {e : TypeId} {sz b m k : Nat} {cs xs : List AV} (hcs : cs.length = k * m * sz) (hx : ∀ x ∈ xs, x.cells.length = sz) (hm : xs.length = m) (h0 : 0 < m) (h1 : (xs.flatMap AV.cells).all AV.one = true) (hb : (k + 1) * m * b ≤ 140737488355328) :
    aapp e sz b (hp H (l ++ slh e k cs)) (slv (H.next + l.length) m sz k) (.imm sz xs) = some (slv (H.next + l.length) m sz (k + 1), hp H (l ++ slh e (k + 1) (cs ++ xs.flatMap AV.cells))) := by
  have hc : acells (hp H (l ++ slh e k cs)) sz (.imm sz xs) = some (m, xs.flatMap AV.cells) := by
    simp only [acells, if_true, hm]
  unfold aapp
  rw [hc]
  simp only [h1, if_true]
  cases k with
  | zero =>
    have hnil : cs = [] := List.length_eq_zero_iff.1 (by rw [hcs]; simp)
    subst hnil
    simp only [slv, slh, if_neg (Nat.ne_of_gt h0), List.append_nil, Nat.zero_add, Nat.one_mul] at hb ⊢
    rw [if_pos hb, hp_push, hp_next]
    rfl
  | succ k =>
    simp only [slv, slh]
    rw [hp_get, List.getElem?_append_right (Nat.le_refl _), Nat.sub_self, List.getElem?_cons_zero]
    simp only
    rw [if_pos ⟨trivial, trivial, trivial, hcs, by rw [Nat.succ_mul (k + 1)] at hb; exact hb⟩, hp_set, List.set_append_right _ _ (Nat.le_refl _), Nat.sub_self, List.set_cons_zero, Nat.succ_mul (k + 1)]
/-- The same, where it is one's only row. -/
theorem aapp_slv0 {e : TypeId} {sz b m k : Nat} {cs xs : List AV} (hcs : cs.length = k * m * sz) (hx : ∀ x ∈ xs, x.cells.length = sz) (hm : xs.length = m) (h0 : 0 < m) (h1 : (xs.flatMap AV.cells).all AV.one = true) (hb : (k + 1) * m * b ≤ 140737488355328) :
    aapp e sz b (hp H (slh e k cs)) (slv (H.next + 0) m sz k) (.imm sz xs) = some (slv (H.next + 0) m sz (k + 1), hp H (slh e (k + 1) (cs ++ xs.flatMap AV.cells))) :=
  aapp_slv (l := []) hcs hx hm h0 h1 hb
theorem shut_slv {e : TypeId} {sz m k : Nat} {cs xs : List AV} (hx : ∀ x ∈ xs, x.cells.length = sz) (hn : xs.length = k * m) (hc : cs = xs.flatMap AV.cells) (h0 : 0 < k * m) :
    Shut (hp H (slh e k cs)) (slv (H.next + 0) m sz k) ((hp H (slh e k cs)).kill (H.next + 0)) (.imm sz xs) := by
  cases k with
  | zero => simp at h0
  | succ k => exact shut_wr (i := 0) rfl hx hn hc
/-- What a slice that was grown from nothing is to its readers. -/
def immOf (sz : Nat) (xs : List AV) : AV := if xs = [] then .nils else .imm sz xs
theorem aret_slv {e : TypeId} {sz m k : Nat} {cs xs : List AV} (hx : ∀ x ∈ xs, x.cells.length = sz) (hn : xs.length = k * m) (hm : 0 < m) (hc : cs = xs.flatMap AV.cells) (hs : H.within H.next) (hu : (AV.imm sz xs).under H.next)
    (f : AV → AV) (hf : ∀ y H0 H1 y1, Shut H0 y H1 y1 → Shut H0 (f y) H1 (f y1)) (hfu : ∀ y, y.under H.next → (f y).under H.next) (hk : K (f (immOf sz xs)) H) : ARet H.next K (f (slv (H.next + 0) m sz k)) (hp H (slh e k cs)) := by
  by_cases h : xs = []
  · have hk0 : k = 0 := by
      subst h
      rcases Nat.mul_eq_zero.1 hn.symm with h1 | h1
      · exact h1
      · omega
    subst hk0
    have : immOf sz xs = .nils := by simp [immOf, h]
    rw [this] at hk
    exact aret_own (.refl _ _) own_hp hs (hfu _ .nils) hk
  · have : immOf sz xs = .imm sz xs := by simp [immOf, h]
    rw [this] at hk
    have h0 : 0 < k * m := by
      rw [← hn]
      exact List.length_pos_iff.2 h
    exact aret_own (hf _ _ _ _ (shut_slv hx hn hc h0)) (own_kill 0 own_hp) hs (hfu _ hu) hk
end
end Go.Proofs.YtmdgjfadbhenjaaGreatDoor.AL

