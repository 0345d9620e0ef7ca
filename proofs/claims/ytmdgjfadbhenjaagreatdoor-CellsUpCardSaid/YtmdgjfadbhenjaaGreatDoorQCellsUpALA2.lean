/- Texts gathered into one. -/
import Derived.Test.YtmdgjfadbhenjaaGreatDoorQCellsUpALA1
import Derived.MapKept
import Derived.Deep.LoopGhost
import Derived.Scope
/- Maps whose keys are texts or whole numbers: what their operations do to the machine's memory is what is told of them. -/
set_option linter.unusedVariables false
set_option linter.unusedSimpArgs false
namespace Go.Proofs.YtmdgjfadbhenjaaGreatDoor.AL
open Go
section
variable {P : Program} {g : Ghost} {w w' : World} {H : AHeap}
/-- What keys of a kind are compared as. -/
def KeyD (str : Bool) (d : TypeDesc) : Prop := if str = true then d = .string else ∃ k, d = .int k
theorem tKey_spec {t : TypeId} {str : Bool} (h : tKey P t = some str) : ∃ d, P.underlying t = some d ∧ KeyD str d := by
  unfold tKey at h
  split at h <;> (try (cases h; done)) <;> obtain rfl := Option.some.inj h
  · exact ⟨_, by assumption, rfl⟩
  · exact ⟨_, by assumption, _, rfl⟩
theorem tMap_spec {t e : TypeId} {str : Bool} (h : tMap P t = some (str, e)) : ∃ kt d, P.underlying t = some (.map kt e) ∧ P.underlying kt = some d ∧ KeyD str d := by
  unfold tMap at h
  split at h <;> (try (cases h; done))
  rename_i k e' hu
  obtain ⟨s, hs, he⟩ := Option.map_eq_some_iff.1 h
  simp only [Prod.mk.injEq] at he
  obtain ⟨rfl, rfl⟩ := he
  obtain ⟨d, h1, h2⟩ := tKey_spec hs
  exact ⟨k, d, hu, h1, h2⟩
theorem akey_sound {str b : Bool} {d : TypeDesc} {u u' : Value} {k k' : AV} (hd : KeyD str d) (hk : Rep g w u k) (hk' : Rep g w u' k') (h : akey str k k' = some b) : Instr.sameNow d u u' = some b ∧ (b = true → Instr.sameBits 10000 u' u = true) := by
  unfold akey at h
  split at h <;> (try (cases h; done))
  · split at h <;> (try (cases h; done))
    rename_i a c hs
    obtain rfl := Option.some.inj h
    subst hs
    cases hk; cases hk'
    obtain rfl : d = .string := hd
    have he : ∀ a c : ByteArray, (a == c) = decide (a.data.toList = c.data.toList) := fun a c => by
      obtain ⟨⟨a⟩⟩ := a
      obtain ⟨⟨c⟩⟩ := c
      show ((a.toArray == c.toArray) : Bool) = _
      rw [Bool.eq_iff_iff]
      simp
    refine ⟨by simp only [Instr.sameNow, he], fun hb => ?_⟩
    have := of_decide_eq_true hb
    simp only [Instr.sameBits, he]
    simp [this]
  · split at h <;> (try (cases h; done))
    rename_i kk a kk' c hs
    obtain rfl := Option.some.inj h
    obtain ⟨h1, rfl⟩ := hs
    cases hk; cases hk'
    have hstr : str = false := by simpa using h1
    subst hstr
    obtain ⟨kd, rfl⟩ : ∃ k, d = .int k := by simpa [KeyD] using hd
    refine ⟨by simp [Instr.sameNow]; rfl, fun hb => ?_⟩
    have := of_decide_eq_true hb
    simp [Instr.sameBits, this]
def RepMap (g : Ghost) (w : World) (ms : List MapEntry) (es : List (AV × AV)) : Prop := ms.length = es.length ∧ ∀ (i : Nat) (e : MapEntry) (x : AV × AV), ms[i]? = some e → es[i]? = some x → Rep g w e.key x.1 ∧ Rep g w e.val x.2
theorem RepMap.tail {m : MapEntry} {ms : List MapEntry} {x : AV × AV} {es : List (AV × AV)} (h : RepMap g w (m :: ms) (x :: es)) : RepMap g w ms es :=
  ⟨by simpa using h.1, fun i e y h1 h2 => h.2 (i + 1) e y (by simpa using h1) (by simpa using h2)⟩
theorem find_sound {str : Bool} {d : TypeDesc} {u : Value} {k : AV} (hd : KeyD str d) (hk : Rep g w u k) : ∀ (ms : List MapEntry) (es : List (AV × AV)) (i : Nat) (r : Option AV), RepMap g w ms es → amget str k es = some r →
    match r with
    | none => Instr.findNow d u ms i = some none
    | some v => ∃ j e, Instr.findNow d u ms i = some (some (i + j, e.val)) ∧ ms[j]? = some e ∧ Rep g w e.val v
  | [], [], i, r, _, h => by
    obtain rfl := Option.some.inj h
    rfl
  | [], x :: es, _, _, hr, _ => by have := hr.1; simp at this
  | m :: ms, [], _, _, hr, _ => by have := hr.1; simp at this
  | m :: ms, x :: es, i, r, hr, h => by
    have h0 := hr.2 0 m x rfl rfl
    simp only [amget] at h
    split at h <;> (try (cases h; done))
    · rename_i hb
      obtain rfl := Option.some.inj h
      obtain ⟨h1, _⟩ := akey_sound hd hk h0.1 hb
      exact ⟨0, m, by simp [Instr.findNow, h1], rfl, h0.2⟩
    · rename_i hb
      obtain ⟨h1, _⟩ := akey_sound hd hk h0.1 hb
      have ih := find_sound hd hk ms es (i + 1) r hr.tail h
      cases r with
      | none => simp only [Instr.findNow, h1]; exact ih
      | some v =>
        obtain ⟨j, e, h2, h3, h4⟩ := ih
        exact ⟨j + 1, e, by simp only [Instr.findNow, h1, h2]; rw [show i + 1 + j = i + (j + 1) by omega], by simpa using h3, h4⟩
theorem zeroV_spec {t : TypeId} {z : AV} (h : tZeroV P t = some z) : ∃ v, (zeroValue t).run P w = .ok v w ∧ Rep g w v z := by
  unfold tZeroV at h
  split at h <;> (try (cases h; done))
  rename_i i hi
  split at h <;> (try (cases h; done))
  · rename_i cs hz
    obtain ⟨zs, hzs, rfl⟩ := Option.map_eq_some_iff.1 h
    have hr : Reps g w cs zs := by simpa using trV_reps (g := g) (w := w) _ _ hzs
    exact ⟨.agg cs, by simp [zeroValue, typeInfo, hi, hz], .agg _ _ hr.1 hr.2⟩
  · rename_i v _ hz
    exact ⟨v, by simp [zeroValue, typeInfo, hi, hz], trV_rep h⟩
theorem checkKey_run {kt : TypeId} {d : TypeDesc} {str : Bool} (hkt : P.underlying kt = some d) (hd : KeyD str d) (e : Bool) (n : Nat) (u : Value) (w : World) : (Instr.checkKey e (n + 1) kt u).run P w = .ok () w := by
  unfold KeyD at hd
  split at hd
  · subst hd
    simp [Instr.checkKey, run_underlying hkt]
  · obtain ⟨k, rfl⟩ := hd
    simp [Instr.checkKey, run_underlying hkt]
theorem goes_lookup {t e : TypeId} {str ok : Bool} {z : AV} {um uk : Value} {m k y : AV} (hS : Sim g w H) (ht : tMap P t = some (str, e)) (hz : tZeroV P e = some z) (hm : Rep g w um m) (hk : Rep g w uk k) (h : alookup H str z ok k m = some y) :
    ∃ v, (Instr.lookup t um uk ok).run P w = .ok v w ∧ Rep g w v y := by
  obtain ⟨kt, d, h1, h2, h3⟩ := tMap_spec ht
  obtain ⟨zv, hzv, hzr⟩ := zeroV_spec (g := g) (w := w) hz
  have fin : ∀ (b : Bool) (v : Value) (x : AV), Rep g w v x → Rep g w (if ok then .tuple #[v, .bool b] else v) (afound ok b x) := by
    intro b v x hv
    unfold afound
    cases ok
    · exact hv
    · refine .tup _ _ rfl (fun i u c hu hc => ?_)
      match i with
      | 0 => simp at hu hc; subst hu; subst hc; exact hv
      | 1 => simp at hu hc; subst hu; subst hc; exact .bool b
      | i + 2 => simp at hu
  unfold alookup at h
  split at h <;> (try (cases h; done))
  · obtain rfl := Option.some.inj h
    cases hm
    refine ⟨_, ?_, fin false zv z hzr⟩
    simp [Instr.lookup, run_underlying h1, checkKey_run h2 h3, Instr.findKey, run_underlying h2, Instr.findNow, hzv]
  · rename_i id
    split at h <;> (try (cases h; done))
    rename_i es ho
    cases hm
    rename_i b hb
    obtain ⟨b', ms, clock, q1, q2, q3, q4⟩ := hS.live id _ ho
    rw [hb] at q1
    obtain rfl := Option.some.inj q1
    have hrm : RepMap g w ms.toList es := ⟨by simpa using q3, fun i e x he hx => q4 i e x (by simpa using he) hx⟩
    split at h <;> (try (cases h; done))
    · rename_i v hg
      obtain rfl := Option.some.inj h
      obtain ⟨j, en, f1, f2, f3⟩ := find_sound h3 hk ms.toList es 0 (some v) hrm hg
      refine ⟨_, ?_, fin true en.val v f3⟩
      simp [Instr.lookup, run_underlying h1, MapKept.run_getObj_map q2, checkKey_run h2 h3, Instr.findKey, run_underlying h2, f1]
    · rename_i hg
      obtain rfl := Option.some.inj h
      have f1 : Instr.findNow d uk ms.toList 0 = some none := find_sound h3 hk ms.toList es 0 none hrm hg
      refine ⟨_, ?_, fin false zv z hzr⟩
      simp [Instr.lookup, run_underlying h1, MapKept.run_getObj_map q2, checkKey_run h2 h3, Instr.findKey, run_underlying h2, f1, hzv]
theorem sim_new {ob : Obj} {ao : AObj} (hS : Sim g w H) (hgen : ao.gen = 0) (hh : w'.heap = w.heap.push ob) (hro : ∀ g' : Ghost, g'.m H.next 0 = some w.heap.size → Ext g w g' w' → RepObj g' w' H.next ao)
    (h1 : w'.os = w.os) (h2 : w'.tape = w.tape) (h3 : w'.output = w.output) :
    Ext g w (g.add H.next 0 w.heap.size) w' ∧ Sim (g.add H.next 0 w.heap.size) w' (H.push ao) ∧ (g.add H.next 0 w.heap.size).m H.next 0 = some w.heap.size := by
  have hE := ext_push hS hh h1 h2 h3 (m_new hS 0) w.heap.size (Nat.le_refl _)
  have hm : (g.add H.next 0 w.heap.size).m H.next 0 = some w.heap.size := by simp [Ghost.add]
  have hold : ∀ id gen b, (g.add H.next 0 w.heap.size).m id gen = some b → (id = H.next ∧ gen = 0 ∧ b = w.heap.size) ∨ g.m id gen = some b := by
    intro id gen b h
    simp only [Ghost.add] at h
    split at h
    · rename_i hc; exact .inl ⟨hc.1, hc.2, (Option.some.inj h).symm⟩
    · exact .inr h
  have hlive : ∀ id o, H.get id = some o → ∀ b, (g.add H.next 0 w.heap.size).m id o.gen = some b → g.m id o.gen = some b := by
    intro id o ho b hb
    rcases hold _ _ _ hb with ⟨h, _⟩ | h
    · have := H.lt ho; omega
    · exact h
  refine ⟨hE, ⟨fun b hb => ?_, fun id gen b hb => ?_, fun id o ho => ?_, fun id id' o o' b ho ho' hb hb' => ?_, fun id o b ho hb => ?_, fun id o gen b ho hb => ?_, hS.var.ext hE⟩, hm⟩
  · have := hS.zlt b hb; rw [hh]; simp; omega
  · rw [hh, push_next]
    rcases hold _ _ _ hb with ⟨rfl, rfl, rfl⟩ | h
    · simp
    · have := hS.mlt _ _ _ h
      simp
      omega
  · rw [push_get] at ho
    split at ho
    · rename_i hid; subst hid
      obtain rfl := Option.some.inj ho
      exact hro _ hm hE
    · exact (hS.live id o ho).ext hE (fun b hb => heap_push_old _ hh (hS.mlt _ _ _ hb).2)
  · rw [push_get] at ho ho'
    split at ho
    · rename_i h4
      split at ho'
      · rename_i h5; rw [h4, h5]
      · obtain rfl := Option.some.inj ho
        have h6 := hlive _ _ ho' _ hb'
        have h7 := (hS.mlt _ _ _ h6).2
        rw [h4] at hb
        rw [hgen] at hb
        rw [hm] at hb
        obtain rfl := Option.some.inj hb
        omega
    · split at ho'
      · rename_i h5
        obtain rfl := Option.some.inj ho'
        have h6 := hlive _ _ ho _ hb
        have h7 := (hS.mlt _ _ _ h6).2
        rw [h5] at hb'
        rw [hgen] at hb'
        rw [hm] at hb'
        obtain rfl := Option.some.inj hb'
        omega
      · exact hS.inj _ _ _ _ b ho ho' (hlive _ _ ho _ hb) (hlive _ _ ho' _ hb')
  · rw [push_get] at ho
    split at ho
    · rename_i hid; subst hid
      obtain rfl := Option.some.inj ho
      rw [hgen] at hb
      rw [hm] at hb
      obtain rfl := Option.some.inj hb
      intro hz
      have := hS.zlt _ hz
      omega
    · exact hS.nz id o b ho (hlive _ _ ho _ hb)
  · rw [push_get] at ho
    split at ho
    · rename_i hid; subst hid
      obtain rfl := Option.some.inj ho
      rcases hold _ _ _ hb with ⟨_, h, _⟩ | h
      · rw [h]; exact Nat.zero_le _
      · rw [m_new hS gen] at h; cases h
    · rcases hold _ _ _ hb with ⟨h, _⟩ | h
      · have := H.lt ho; omega
      · exact hS.gen id o gen b ho h
theorem goes_mkmap {K : AV → AHeap → Prop} {ty : TypeId} (hS : Sim g w H) (hk : K (.map H.next) (H.push (.map []))) : Goes P g w (Instr.makeMap ty none) K := by
  obtain ⟨hE, hS', hm⟩ := sim_new (ao := .map []) (w' := w.alloc (.map #[] 0)) (ob := .map #[] 0) hS rfl (by simp [World.alloc, -World.alloc_eq]) (fun g' hm hE => ⟨w.heap.size, #[], 0, hm, by simp [World.alloc, -World.alloc_eq], rfl, fun i e x he hx => by simp at hx⟩) rfl rfl rfl
  exact ⟨.map (some w.heap.size), _, _, _, _, by simp [Instr.makeMap], hE, hS', .map _ _ hm, hk⟩
/-- A map's entries other ones. -/
theorem sim_map {id b clock clock' : Nat} {ms ms' : Array MapEntry} {es es' : List (AV × AV)} (hS : Sim g w H) (ho : H.get id = some (.map es)) (hb : g.m id 0 = some b) (hc : w.heap[b]? = some (.map ms clock))
    (hh : w'.heap = w.heap.setIfInBounds b (.map ms' clock')) (hr : RepMap g w ms'.toList es') (h1 : w'.os = w.os) (h2 : w'.tape = w.tape) (h3 : w'.output = w.output) : Ext g w g w' ∧ Sim g w' (H.set id (.map es')) := by
  have hbl : b < w.heap.size := (hS.mlt _ _ _ hb).2
  have hidl : id < H.next := (hS.mlt _ _ _ hb).1
  have hsz : w'.heap.size = w.heap.size := by rw [hh]; simp
  have hoth : ∀ k, k ≠ b → w'.heap[k]? = w.heap[k]? := by
    intro k hk
    rw [hh, Array.getElem?_setIfInBounds_ne (Ne.symm hk)]
  have hnew : w'.heap[b]? = some (.map ms' clock') := by
    rw [hh, Array.getElem?_setIfInBounds_self_of_lt hbl]
  have hnz : ¬ g.Z b := hS.nz id _ b ho hb
  have hE : Ext g w g w' := by
    refine ⟨fun _ _ _ h => h, fun _ h => h, fun k hk => hoth k (fun e => hnz (e ▸ hk)), fun k s hs => ?_, by omega, h1, h2, h3, fun _ _ q => q, fun k hk q => hoth k (fun e => q (.inr ⟨id, 0, by rw [e]; exact hb⟩))⟩
    by_cases hkb : k = b
    · subst hkb
      simp [World.shape?, hc] at hs
    · unfold World.shape? at hs ⊢
      rw [hoth k hkb]
      exact hs
  have hget : ∀ id' o', (H.set id (.map es')).get id' = some o' → (id' = id ∧ o' = .map es') ∨ (id' ≠ id ∧ H.get id' = some o') := by
    intro id' o' h
    simp only [AHeap.set] at h
    split at h
    · rename_i hc; exact .inl ⟨hc.1, (Option.some.inj h).symm⟩
    · rename_i hc
      by_cases he : id' = id
      · exact absurd ⟨he, hidl⟩ hc
      · exact .inr ⟨he, h⟩
  refine ⟨hE, ⟨fun k hk => by rw [hsz]; exact hS.zlt k hk, fun i k b' hb' => by rw [hsz]; exact hS.mlt i k b' hb', fun id' o' h => ?_, fun id1 id2 o1 o2 b' q1 q2 r1 r2 => ?_, fun id' o' b' q r => ?_, fun id' o' k b' q r => ?_, hS.var.ext hE⟩⟩
  · rcases hget _ _ h with ⟨rfl, rfl⟩ | ⟨hne, h⟩
    · exact ⟨b, ms', clock', hb, hnew, by simpa using hr.1, fun i e x he hx => ⟨(hr.2 i e x (by simpa using he) hx).1.ext hE, (hr.2 i e x (by simpa using he) hx).2.ext hE⟩⟩
    · exact (hS.live _ _ h).ext hE (fun b' hb' => hoth b' (fun e => hne (hS.inj _ _ _ _ b h ho (e ▸ hb') hb)))
  · have k1 : ∃ o, H.get id1 = some o ∧ o.gen = o1.gen := by
      rcases hget _ _ q1 with ⟨rfl, rfl⟩ | ⟨_, h⟩
      · exact ⟨_, ho, rfl⟩
      · exact ⟨_, h, rfl⟩
    have k2 : ∃ o, H.get id2 = some o ∧ o.gen = o2.gen := by
      rcases hget _ _ q2 with ⟨rfl, rfl⟩ | ⟨_, h⟩
      · exact ⟨_, ho, rfl⟩
      · exact ⟨_, h, rfl⟩
    obtain ⟨p1, g1, e1⟩ := k1
    obtain ⟨p2, g2, e2⟩ := k2
    exact hS.inj _ _ p1 p2 b' g1 g2 (by rw [e1]; exact r1) (by rw [e2]; exact r2)
  · rcases hget _ _ q with ⟨rfl, rfl⟩ | ⟨_, h⟩
    · exact hS.nz _ _ b' ho r
    · exact hS.nz _ _ b' h r
  · rcases hget _ _ q with ⟨rfl, rfl⟩ | ⟨_, h⟩
    · have := hS.gen _ (.map es) k b' ho r
      exact this
    · exact hS.gen _ _ k b' h r
/-- One goes on through a text. -/
theorem sim_iter {id b pos pos' : Nat} {s : ByteArray} (hS : Sim g w H) (ho : H.get id = some (.iter s pos)) (hb : g.m id 0 = some b) (hc : w.heap[b]? = some (.stringIter s pos))
    (hh : w'.heap = w.heap.setIfInBounds b (.stringIter s pos')) (h1 : w'.os = w.os) (h2 : w'.tape = w.tape) (h3 : w'.output = w.output) : Ext g w g w' ∧ Sim g w' (H.set id (.iter s pos')) := by
  have hbl : b < w.heap.size := (hS.mlt _ _ _ hb).2
  have hidl : id < H.next := (hS.mlt _ _ _ hb).1
  have hsz : w'.heap.size = w.heap.size := by rw [hh]; simp
  have hoth : ∀ k, k ≠ b → w'.heap[k]? = w.heap[k]? := by
    intro k hk
    rw [hh, Array.getElem?_setIfInBounds_ne (Ne.symm hk)]
  have hnew : w'.heap[b]? = some (.stringIter s pos') := by
    rw [hh, Array.getElem?_setIfInBounds_self_of_lt hbl]
  have hnz : ¬ g.Z b := hS.nz id _ b ho hb
  have hE : Ext g w g w' := by
    refine ⟨fun _ _ _ h => h, fun _ h => h, fun k hk => hoth k (fun e => hnz (e ▸ hk)), fun k s2 hs => ?_, by omega, h1, h2, h3, fun _ _ q => q, fun k hk q => hoth k (fun e => q (.inr ⟨id, 0, by rw [e]; exact hb⟩))⟩
    by_cases hkb : k = b
    · subst hkb
      simp [World.shape?, hc] at hs
    · unfold World.shape? at hs ⊢
      rw [hoth k hkb]
      exact hs
  have hget : ∀ id' o', (H.set id (.iter s pos')).get id' = some o' → (id' = id ∧ o' = .iter s pos') ∨ (id' ≠ id ∧ H.get id' = some o') := by
    intro id' o' h
    simp only [AHeap.set] at h
    split at h
    · rename_i hc; exact .inl ⟨hc.1, (Option.some.inj h).symm⟩
    · rename_i hc
      by_cases he : id' = id
      · exact absurd ⟨he, hidl⟩ hc
      · exact .inr ⟨he, h⟩
  refine ⟨hE, ⟨fun k hk => by rw [hsz]; exact hS.zlt k hk, fun i k b' hb' => by rw [hsz]; exact hS.mlt i k b' hb', fun id' o' h => ?_, fun id1 id2 o1 o2 b' q1 q2 r1 r2 => ?_, fun id' o' b' q r => ?_, fun id' o' k b' q r => ?_, hS.var.ext hE⟩⟩
  · rcases hget _ _ h with ⟨rfl, rfl⟩ | ⟨hne, h⟩
    · exact ⟨b, hb, hnew⟩
    · exact (hS.live _ _ h).ext hE (fun b' hb' => hoth b' (fun e => hne (hS.inj _ _ _ _ b h ho (e ▸ hb') hb)))
  · have k1 : ∃ o, H.get id1 = some o ∧ o.gen = o1.gen := by
      rcases hget _ _ q1 with ⟨rfl, rfl⟩ | ⟨_, h⟩
      · exact ⟨_, ho, rfl⟩
      · exact ⟨_, h, rfl⟩
    have k2 : ∃ o, H.get id2 = some o ∧ o.gen = o2.gen := by
      rcases hget _ _ q2 with ⟨rfl, rfl⟩ | ⟨_, h⟩
      · exact ⟨_, ho, rfl⟩
      · exact ⟨_, h, rfl⟩
    obtain ⟨p1, g1, e1⟩ := k1
    obtain ⟨p2, g2, e2⟩ := k2
    exact hS.inj _ _ p1 p2 b' g1 g2 (by rw [e1]; exact r1) (by rw [e2]; exact r2)
  · rcases hget _ _ q with ⟨rfl, rfl⟩ | ⟨_, h⟩
    · exact hS.nz _ _ b' ho r
    · exact hS.nz _ _ b' h r
  · rcases hget _ _ q with ⟨rfl, rfl⟩ | ⟨_, h⟩
    · have := hS.gen _ (.iter s pos) k b' ho r
      exact this
    · exact hS.gen _ _ k b' h r
theorem goes_range {t : TypeId} {v : Value} {x y : AV} {H' : AHeap} {K : AV → AHeap → Prop} (hS : Sim g w H) (ht : P.underlying t = some .string) (hx : Rep g w v x) (h : arange H x = some (y, H')) (hk : K y H') : Goes P g w (Instr.range t v) K := by
  unfold arange at h
  split at h <;> (try (cases h; done))
  rename_i s
  simp only [Option.some.injEq, Prod.mk.injEq] at h
  obtain ⟨rfl, rfl⟩ := h
  cases hx
  obtain ⟨hE, hS', hm⟩ := sim_new (ao := .iter s 0) (w' := w.alloc (.stringIter s 0)) (ob := .stringIter s 0) hS rfl (by simp [World.alloc, -World.alloc_eq]) (fun g' hm hE => ⟨w.heap.size, hm, by simp [World.alloc, -World.alloc_eq]⟩) rfl rfl rfl
  exact ⟨.pointer (some ⟨w.heap.size, 0, none⟩), _, _, _, _, by simp [Instr.range, run_underlying ht], hE, hS', .ptr _ _ _ _ hm, hk⟩
theorem goes_next {ty : TypeId} {v : Value} {x y : AV} {H' : AHeap} {K : AV → AHeap → Prop} (hS : Sim g w H) (hx : Rep g w v x) (h : anext H x = some (y, H')) (hk : K y H') : Goes P g w (Instr.next v true ty) K := by
  unfold anext at h
  split at h <;> (try (cases h; done))
  rename_i id
  split at h <;> (try (cases h; done))
  rename_i s pos ho
  obtain ⟨b, rfl, hb⟩ := hx.ptr_inv
  obtain ⟨b', q1, q2⟩ := hS.live id _ ho
  rw [hb] at q1
  obtain rfl := Option.some.inj q1
  split at h
  · rename_i hp
    simp only [Option.some.injEq, Prod.mk.injEq] at h
    obtain ⟨rfl, rfl⟩ := h
    have hr : (Instr.next (.pointer (some ⟨b, 0, none⟩)) true ty).run P w = .ok (.tuple #[.bool true, .int .i64 pos, .int .i32 (Utf8.decode s pos).1]) { w with heap := w.heap.setIfInBounds b (.stringIter s (pos + (Utf8.decode s pos).2)) } := by
      simp only [Instr.next, getObj, setObj, Sem.run_bind, Sem.run, q2, Result.andThen, hp, if_true]
      simp [goInt]
    obtain ⟨hE, hS'⟩ := sim_iter (pos' := pos + (Utf8.decode s pos).2) (w' := { w with heap := w.heap.setIfInBounds b (.stringIter s (pos + (Utf8.decode s pos).2)) }) hS ho hb q2 rfl rfl rfl rfl
    refine ⟨_, _, _, _, _, hr, hE, hS', .tup _ _ rfl (fun i v z hv hz => ?_), hk⟩
    match i with
    | 0 => simp at hv hz; subst hv; subst hz; exact .bool _
    | 1 => simp at hv hz; subst hv; subst hz; exact .int _ _
    | 2 => simp at hv hz; subst hv; subst hz; exact .int _ _
    | i + 3 => simp at hv
  · rename_i hp
    simp only [Option.some.injEq, Prod.mk.injEq] at h
    obtain ⟨rfl, rfl⟩ := h
    have hr : (Instr.next (.pointer (some ⟨b, 0, none⟩)) true ty).run P w = .ok (.tuple #[.bool false]) w := by
      simp [Instr.next, getObj, Sem.run, q2, hp]
    refine ⟨_, _, _, _, _, hr, Ext.refl _ _, hS, .tup _ _ rfl (fun i v z hv hz => ?_), hk⟩
    match i with
    | 0 => simp at hv hz; subst hv; subst hz; exact .bool _
    | i + 1 => simp at hv
theorem mset_sound {str : Bool} {d : TypeDesc} {u uv : Value} {k v : AV} (hd : KeyD str d) (hk : Rep g w u k) (hv : Rep g w uv v) (clock : Nat) : ∀ (ms : List MapEntry) (es es' : List (AV × AV)) (i : Nat), RepMap g w ms es → amset str k v es = some es' →
    (Instr.findNow d u ms i = some none ∧ RepMap g w (ms ++ [⟨u, uv, clock⟩]) es') ∨
    ∃ j e, Instr.findNow d u ms i = some (some (i + j, e.val)) ∧ ms[j]? = some e ∧ Instr.sameBits 10000 e.key u = true ∧ RepMap g w (ms.modify j fun e => { e with key := u, val := uv }) es'
  | [], [], es', i, _, h => by
    obtain rfl := Option.some.inj h
    refine .inl ⟨rfl, rfl, fun i e x h1 h2 => ?_⟩
    match i with
    | 0 => simp at h1 h2; subst h1; subst h2; exact ⟨hk, hv⟩
    | i + 1 => simp at h1
  | [], x :: es, _, _, hr, _ => by have := hr.1; simp at this
  | m :: ms, [], _, _, hr, _ => by have := hr.1; simp at this
  | m :: ms, x :: es, es', i, hr, h => by
    have h0 := hr.2 0 m x rfl rfl
    simp only [amset] at h
    split at h <;> (try (cases h; done))
    · rename_i hb
      obtain rfl := Option.some.inj h
      obtain ⟨h1, h2⟩ := akey_sound hd hk h0.1 hb
      refine .inr ⟨0, m, by simp [Instr.findNow, h1], rfl, h2 rfl, by simpa using hr.1, fun j e y q1 q2 => ?_⟩
      match j with
      | 0 => simp at q1 q2; subst q1; subst q2; exact ⟨hk, hv⟩
      | j + 1 => exact hr.2 (j + 1) e y (by simpa using q1) (by simpa using q2)
    · rename_i hb
      obtain ⟨es2, h3, rfl⟩ := Option.map_eq_some_iff.1 h
      obtain ⟨h1, _⟩ := akey_sound hd hk h0.1 hb
      have cons : ∀ (ms' : List MapEntry), RepMap g w ms' es2 → RepMap g w (m :: ms') (x :: es2) := fun ms' hr' => by
        refine ⟨by simpa using hr'.1, fun j e y q1 q2 => ?_⟩
        match j with
        | 0 => simp at q1 q2; subst q1; subst q2; exact h0
        | j + 1 => exact hr'.2 j e y (by simpa using q1) (by simpa using q2)
      rcases mset_sound hd hk hv clock ms es es2 (i + 1) hr.tail h3 with ⟨f1, f2⟩ | ⟨j, e, f1, f2, f3, f4⟩
      · exact .inl ⟨by simp only [Instr.findNow, h1]; exact f1, cons _ f2⟩
      · exact .inr ⟨j + 1, e, by simp only [Instr.findNow, h1, f1]; rw [show i + 1 + j = i + (j + 1) by omega], by simpa using f2, f3, by simpa using cons _ f4⟩
theorem goes_mapup {t e : TypeId} {str : Bool} {um uk uv : Value} {m k v : AV} {H' : AHeap} (hS : Sim g w H) (ht : tMap P t = some (str, e)) (hm : Rep g w um m) (hk : Rep g w uk k) (hv : Rep g w uv v) (h : amapup H str k v m = some H') :
    ∃ w', (Instr.mapUpdate t um uk uv).run P w = .ok () w' ∧ Ext g w g w' ∧ Sim g w' H' := by
  obtain ⟨kt, d, h1, h2, h3⟩ := tMap_spec ht
  unfold amapup at h
  split at h <;> (try (cases h; done))
  rename_i id
  split at h <;> (try (cases h; done))
  rename_i es ho
  obtain ⟨es', hes, rfl⟩ := Option.map_eq_some_iff.1 h
  cases hm
  rename_i b hb
  obtain ⟨b', ms, clock, q1, q2, q3, q4⟩ := hS.live id _ ho
  rw [hb] at q1
  obtain rfl := Option.some.inj q1
  have hrm : RepMap g w ms.toList es := ⟨by simpa using q3, fun i e x he hx => q4 i e x (by simpa using he) hx⟩
  rcases mset_sound h3 hk hv clock ms.toList es es' 0 hrm hes with ⟨f1, f2⟩ | ⟨j, en, f1, f2, f3, f4⟩
  · refine ⟨_, ?_, sim_map (ms' := ms.push ⟨uk, uv, clock⟩) (clock' := clock + 1) (w' := { w with heap := w.heap.setIfInBounds b (.map (ms.push ⟨uk, uv, clock⟩) (clock + 1)) }) hS ho hb q2 rfl (by simpa using f2) rfl rfl rfl⟩
    simp [Instr.mapUpdate, run_underlying h1, MapKept.run_getObj_map q2, checkKey_run h2 h3, Instr.findKey, run_underlying h2, f1, MapKept.run_setObj_map _ q2]
  · have hj : ms[j]? = some en := by simpa using f2
    have hms : (ms.modify j fun e => { e with key := uk, val := uv }).toList = ms.toList.modify j fun e => { e with key := uk, val := uv } := by simp
    refine ⟨_, ?_, sim_map (ms' := ms.modify j fun e => { e with key := uk, val := uv }) (clock' := clock) (w' := { w with heap := w.heap.setIfInBounds b (.map (ms.modify j fun e => { e with key := uk, val := uv }) clock) }) hS ho hb q2 rfl (by rw [hms]; exact f4) rfl rfl rfl⟩
    simp [Instr.mapUpdate, run_underlying h1, MapKept.run_getObj_map q2, checkKey_run h2 h3, Instr.findKey, run_underlying h2, f1, MapKept.run_setObj_map _ q2, Instr.keyThatStays, hj, f3]
theorem run_slice3 {t e : TypeId} {sz : Nat} {v vh vm : Value} {x hi mx y : AV} (ht : tElem P t = some (e, sz)) (hx : Rep g w v x) (hh : Rep g w vh hi) (hm : Rep g w vm mx) (h : aslice3 sz x hi mx = some y) :
    ∃ u, (Instr.sliceAt t v none (some vh) (some vm)).run P w = .ok u w ∧ Rep g w u y := by
  obtain ⟨hu, hs⟩ := tElem_spec ht
  unfold aslice3 at h
  split at h <;> (try (cases h; done))
  · rename_i id gen o n s kh ih km im
    split at h <;> (try (cases h; done))
    rename_i hc
    obtain ⟨rfl, rfl, rfl⟩ := hc
    obtain rfl := Option.some.inj h
    cases hh; cases hm
    obtain ⟨b, c, e', n', rfl, h1, h2, h3, h4, h5⟩ := hx.wr_inv
    have hle : o + n * s ≤ n' := by
      have : n * s ≤ c * s := Nat.mul_le_mul_right _ h4
      omega
    refine ⟨.slice (some ⟨b, o, none⟩) n n, ?_, .wr _ _ _ _ _ b _ e' n' h1 h2 hle (Nat.le_refl _) (by omega)⟩
    have hb1 : (n : Int) ≤ (c : Int) := by omega
    by_cases hn : n = 0
    · subst hn
      simp [Instr.sliceAt, Instr.slice, Instr.sliceBounds, run_sliceBound, run_underlying hu, run_sizeOf hs]
    · simp [Instr.sliceAt, Instr.slice, Instr.sliceBounds, run_sliceBound, run_underlying hu, run_sizeOf hs, hb1, hn, h4, Addr.add_lit]
  · rename_i id gen o n c s kh ih km im
    split at h <;> (try (cases h; done))
    rename_i hc
    obtain ⟨rfl, rfl, rfl⟩ := hc
    obtain rfl := Option.some.inj h
    cases hh; cases hm
    obtain ⟨b, e', n', rfl, h1, h2, h3, h4, h5⟩ := hx.wc_inv
    have hle : o + n * s ≤ n' := by
      have : n * s ≤ c * s := Nat.mul_le_mul_right _ h4
      omega
    refine ⟨.slice (some ⟨b, o, none⟩) n n, ?_, .wc _ _ _ _ _ _ b e' n' h1 h2 hle (Nat.le_refl _) (by omega)⟩
    have hb1 : (n : Int) ≤ (c : Int) := by omega
    by_cases hn : n = 0
    · subst hn
      simp [Instr.sliceAt, Instr.slice, Instr.sliceBounds, run_sliceBound, run_underlying hu, run_sizeOf hs]
    · simp [Instr.sliceAt, Instr.slice, Instr.sliceBounds, run_sliceBound, run_underlying hu, run_sizeOf hs, hb1, hn, h4, Addr.add_lit]
end
end Go.Proofs.YtmdgjfadbhenjaaGreatDoor.AL
/- Code, told of the plain picture: what must hold ahead of it for something to hold behind it; and that the machine keeps to it. -/
set_option linter.unusedVariables false
set_option linter.unusedSimpArgs false
namespace Go.Proofs.YtmdgjfadbhenjaaGreatDoor.AL
open Go
def aput (a : List AV) : Option Nat → AV → List AV
  | none, _ => a
  | some d, y => a.set d y
/-- Who is called: a function, or a slot's. -/
inductive CF where
  | fn (f : Nat)
  | val (x : AX)
/-- 'c': a call that answers one thing and leaves memory alone. -/
inductive AOp where
  | q (x : QOp)
  | s (x : SOp)
  | c (f : CF) (args : List AX)
structure AOper where
  dst : Option Nat
  op : AOp
  guard : Option (Nat × Bool)
inductive ACode where
  | skip
  | region (ops : List AOper)
  | regionN (n : Nat) (ops : List AOper)
  | fregion (ts : List Nat) (ops : List AOper)
  | seq (a b : ACode)
  | both (a b : ACode)
  | cond (c : AX) (x y : ACode)
  | block (id : Nat) (c : ACode)
  | loop (c : ACode)
  | exit (id : Nat)
  | ret
inductive AExit where
  | normal
  | exit (id : Nat)
  | ret
def ccall (C : (Nat → List AV → AHeap → (AV → AHeap → Prop) → Prop)) (ρ : AX → AV) (f : CF) (args : List AX) (H : AHeap) (K : AV → AHeap → Prop) : Prop := match f with
  | .fn f => C f (args.map ρ) H K
  | .val x => match ρ x with
    | .func (.func f) fs cs => C f (fs ++ args.map ρ ++ cs) H K
    | _ => False
def aop (C : (Nat → List AV → AHeap → (AV → AHeap → Prop) → Prop)) (o : AOp) (a : List AV) (H : AHeap) (K : AV → AHeap → Prop) : Prop :=
  match o with
  | .q q => ∃ y, aq H (AX.ev a) q = some y ∧ K y H
  | .s s => as_ C H (AX.ev a) s K
  | .c f args => ∃ y, ccall C (AX.ev a) f args H (fun y' H' => y' = y ∧ H' = H) ∧ K y H
/-- Whether an operation is wanted, by its guard's slot: a skipped operation's slot holds the empty tuple. -/
def gdv (x : AV) (want : Bool) : Option Bool :=
  match x with
  | .bool b => some (b == want)
  | .tup [] => some false
  | _ => none
def agop (C : (Nat → List AV → AHeap → (AV → AHeap → Prop) → Prop)) (o : AOp) (b : Bool) (a : List AV) (H : AHeap) (K : AV → AHeap → Prop) : Prop :=
  match o with
  | .q q => (b = true → (aq H (AX.ev a) q).isSome = true) ∧ K (if b then (aq H (AX.ev a) q).getD .top else .tup []) H
  | .s s => if b = true then as_ C H (AX.ev a) s K else K (.tup []) H
  | .c f args => ∃ y, (b = true → ccall C (AX.ev a) f args H (fun y' H' => y' = y ∧ H' = H)) ∧ K (if b then y else .tup []) H
def astep (C : (Nat → List AV → AHeap → (AV → AHeap → Prop) → Prop)) (o : AOper) (a : List AV) (H : AHeap) (K : List AV → AHeap → Prop) : Prop :=
  match o.guard with
  | none => aop C o.op a H fun y H' => K (aput a o.dst y) H'
  | some (t, want) => match gdv (a.getD t .top) want with
    | some b => agop C o.op b a H fun y H' => K (aput a o.dst y) H'
    | none => False
def aops (C : (Nat → List AV → AHeap → (AV → AHeap → Prop) → Prop)) : List AOper → List AV → AHeap → (List AV → AHeap → Prop) → Prop
  | [], a, H, Q => Q a H
  | o :: l, a, H, Q => astep C o a H fun a' H' => aops C l a' H' Q
/-- The same slots, but for such as are forgotten. -/
def Forget (a a' : List AV) : Prop := a.length = a'.length ∧ ∀ (i : Nat) (y z : AV), a[i]? = some y → a'[i]? = some z → z = y ∨ z = .top
/-- A row's cells as elements. -/
def chunkF (sz : Nat) : Nat → List AV → List AV
  | 0, _ => []
  | n + 1, cs => .agg (cs.take sz) :: chunkF sz n (cs.drop sz)
def chunkA (sz n : Nat) (cs : List AV) : List AV := if sz = 1 then cs.take n else chunkF sz n cs
/-- A slice that is given away. -/
def shut1 (H : AHeap) : AV → Option (AV × Nat)
  | .wr i g off len sz => match H.get i with
    | some (.row _ g' cs) => if g = g' ∧ off = 0 ∧ len * sz ≤ cs.length ∧ cs.all AV.one = true then some (.imm sz (chunkA sz len cs), i) else none
    | _ => none
  | .wc i g off len _ sz => match H.get i with
    | some (.row _ g' cs) => if g = g' ∧ off = 0 ∧ len * sz ≤ cs.length ∧ cs.all AV.one = true then some (.imm sz (chunkA sz len cs), i) else none
    | _ => none
  | _ => none
/-- The slices in a row are given away. -/
def deepL (id : Nat) (e : TypeId) (g : Nat) : List AV → List AV → AHeap → Option AHeap
  | _, [], H => some H
  | pre, c :: r, H => match shut1 H c with
    | some (c', i) => if i ≠ id then deepL id e g (pre ++ [c']) r ((H.kill i).set id (.row e g (pre ++ c' :: r))) else none
    | none => deepL id e g (pre ++ [c]) r H
def frzD (t : Nat) (a : List AV) (H : AHeap) : Option AHeap := match a.getD t .top with
  | .ptr id gen _ => match H.get id with
    | some (.row e g cs) => if g = gen then deepL id e g [] cs H else none
    | _ => none
  | _ => none
/-- A slot's variable is written to no more. -/
def frz1 (t : Nat) (a : List AV) (H : AHeap) : Option (List AV × AHeap) := if 300000 ≤ t then (frzD (t - 300000) a H).map (fun H' => (a, H')) else match a.getD t .top with
  | .ptr id gen off => match H.get id with
    | some (.row _ g cs) => if g = gen then some (a.set t (.rd (cs.drop off)), H.kill id) else none
    | _ => none
  | .wr id gen off len sz => match H.get id with
    | some (.row _ g cs) => if g = gen ∧ off = 0 ∧ sz = 1 ∧ cs.length = len ∧ cs.all AV.one = true then some (a.set t (.imm 1 cs), H.kill id) else none
    | _ => none
  | _ => some (a, H)
def frzS : List Nat → List AV → AHeap → Option (List AV × AHeap)
  | [], a, H => some (a, H)
  | t :: ts, a, H => match frz1 t a H with
    | some (a', H') => frzS ts a' H'
    | none => none
def awp (C : (Nat → List AV → AHeap → (AV → AHeap → Prop) → Prop)) : ACode → (AExit → List AV → AHeap → Prop) → List AV → AHeap → Prop
  | .skip, Q, a, H => Q .normal a H
  | .region ops, Q, a, H => aops C ops a H (Q .normal)
  | .regionN n ops, Q, a, H => n ≤ a.length ∧ aops C ops a H (Q .normal)
  | .fregion ts ops, Q, a, H => match frzS ts a H with
    | some (a', H') => aops C ops a' H' (Q .normal)
    | none => False
  | .seq x y, Q, a, H => awp C x (fun e a H => match e with
    | .normal => awp C y Q a H
    | e => Q e a H) a H
  | .both x y, Q, a, H => awp C x Q a H ∧ awp C y Q a H
  | .cond c x y, Q, a, H => match c.ev a with
    | .bool b => if b = true then awp C x Q a H else awp C y Q a H
    | _ => False
  | .block id c, Q, a, H => awp C c (fun e a H => match e with
    | .exit i => if i = id then Q .normal a H else Q (.exit i) a H
    | e => Q e a H) a H
  | .loop c, Q, a, H => ∃ (I : List AV → AHeap → Prop) (μ : List AV → AHeap → Nat), (∃ a2, Forget a a2 ∧ I a2 H) ∧
      ∀ a H, I a H → awp C c (fun e a' H' => match e with
        | .normal => ∃ a2, Forget a' a2 ∧ I a2 H' ∧ μ a2 H' < μ a H
        | e => Q e a' H') a H
  | .exit i, Q, a, H => Q (.exit i) a H
  | .ret, Q, a, H => Q .ret a H
def trOp (P : Program) (op : Op) : Option AOp :=
  match trQ P op with
  | some q => some (.q q)
  | none => (trS P op).map .s
def trGuard (ops : Array Oper) : Option (Nat × Bool) → Option (Option (Nat × Bool))
  | none => some none
  | some (j, b) => match (ops[j]?).bind (·.dst) with
    | some t => some (some (t, b))
    | none => none
/-- A literal slice that is a row of one's own. -/
def trLit (P : Program) : Op → Option AOp
  | .buildSlice t n parts => match tElem P t, trXs (parts.toList.map (·.2)) with
    | some (e, sz), some ps => if parts.size = n ∧ litOk 0 parts.toList = true ∧ n * sz ≤ 16777216 ∧ 0 < sz ∧ zOk P e sz = true then some (.s (.litw e sz ps)) else none
    | _, _ => none
  | _ => none
/-- The same, told with its capacity. -/
def litCap : AOp → AOp
  | .s (.litw e sz ps) => .s (.litc e sz ps)
  | o => o
/-- W: the slots whose literal slices are rows of one's own (a slot + 500000: told with their capacity). -/
def trOpW (P : Program) (W : List Nat) (o : Oper) : Option AOp := match o.dst.any W.contains with
  | true => trLit P o.op
  | false => match o.dst.any (fun d => W.contains (d + 500000)) with
    | true => (trLit P o.op).map litCap
    | false => trOp P o.op
/-- What is not told of is not to be reached. -/
def trOpT (P : Program) (W : List Nat) (o : Oper) : AOp := (trOpW P W o).getD (.s .stop)
def trOper (P : Program) (W : List Nat) (ops : Array Oper) (o : Oper) : Option AOper := (trGuard ops o.guard).map fun gd => ⟨o.dst, trOpT P W o, gd⟩
def trOpers (P : Program) (W : List Nat) (ops : Array Oper) : List Oper → Option (List AOper)
  | [] => some []
  | o :: l => match trOper P W ops o, trOpers P W ops l with
    | some x, some r => some (x :: r)
    | _, _ => none
section
variable {P : Program} {g : Ghost} {w : World} {H : AHeap} {act : Act} {a : List AV}
theorem RepAct.put {g' : Ghost} {w' : World} (hR : RepAct g w act a) (hE : Ext g w g' w') {v : Value} {y : AV} (hv : Rep g' w' v y) (d : Option Nat) : RepAct g' w' (act.put d v) (aput a d y) := by
  cases d with
  | none => exact hR.ext hE
  | some d =>
    refine ⟨hR.defers, by simp [Act.put, aput, hR.size], fun i u z hu hz => ?_⟩
    simp only [Act.put, aput] at hu hz
    by_cases hi : d = i
    · subst hi
      have hd : d < act.tmps.size := by
        have := (Array.getElem?_eq_some_iff.1 hu).1
        simpa using this
      rw [Array.getElem?_setIfInBounds_self_of_lt hd] at hu
      rw [List.getElem?_set_self (by rw [← hR.size]; exact hd)] at hz
      obtain rfl := Option.some.inj hu
      obtain rfl := Option.some.inj hz
      exact hv
    · rw [Array.getElem?_setIfInBounds_ne hi] at hu
      rw [List.getElem?_set_ne hi] at hz
      exact (hR.rep i u z hu hz).ext hE
/-- What follows an operation. -/
def Then (g : Ghost) (w : World) (K : AV → AHeap → Prop) (next : Value → World → Prop) : Prop :=
  ∀ y H' g' w' v, K y H' → Ext g w g' w' → Sim g' w' H' → Rep g' w' v y → next v w'
theorem wp_of_goes {o : Oper} {s : Sem Value} {K : AV → AHeap → Prop} {next : Act → World → Prop} {Qc : Exit → Act → World → Prop} (he : execOp act.eval o = (do pure (.value (← s)))) (h : Goes P g w s K) (hn : Then g w K fun v w' => next (act.put o.dst v) w') : o.wp P act w next Qc := by
  obtain ⟨v, w', g', y, H', h1, h2, h3, h4, h5⟩ := h
  unfold Oper.wp
  rw [he]
  simp only [Sem.run_bind, h1, Result.andThen_ok, Sem.run_pure, Oper.upon_value]
  exact hn y H' g' w' v h5 h2 h3 h4
theorem as_sound {o : Oper} {s : SOp} {K : AV → AHeap → Prop} {next : Act → World → Prop} {Qc : Exit → Act → World → Prop} (h : trS P o.op = some s) (hS : Sim g w H) (hR : RepAct g w act a) (hk : as_ (ACalls P) H (AX.ev a) s K) (hn : Then g w K fun v w' => next (act.put o.dst v) w') : o.wp P act w next Qc := by
  have one : ∀ {x : Operand} {f : AX → SOp}, (trX x).map f = some s → ∃ x', trX x = some x' ∧ s = f x' := by
    intro x f hh
    obtain ⟨x', h1, h2⟩ := Option.map_eq_some_iff.1 hh
    exact ⟨x', h1, h2.symm⟩
  have two : ∀ {x y : Operand} {op : BinOp} {x' y' : AX}, tr2 x y (.bin .add) = some (.bin op x' y') → trX x = some x' ∧ trX y = some y' := by
    intro x y op x' y' hh
    obtain ⟨x2, y2, h1, h2, h3⟩ := tr2_some hh
    cases h3
    exact ⟨h1, h2⟩
  unfold trS at h
  split at h <;> rename_i hop <;> (try (cases h; done))
  · obtain ⟨z, hz, rfl⟩ := Option.map_eq_some_iff.1 h
    exact wp_of_goes (by simp only [execOp, hop] <;> rfl) (goes_alloc hS hz hk) hn
  · obtain ⟨x', hx, rfl⟩ := one h
    exact wp_of_goes (by simp only [execOp, hop] <;> rfl) (goes_box hS (trX_rep hR hx) hk.1 hk.2) hn
  · split at h <;> (try (cases h; done))
    rename_i n x' v' hsz hx hv
    obtain rfl := Option.some.inj h
    obtain ⟨H', hst, hk⟩ := hk
    obtain ⟨w', g', h1, h2, h3⟩ := goes_store (P := P) hS hsz (trX_rep hR hx) (trX_rep hR hv) hst
    unfold Oper.wp
    have he : (execOp act.eval o).run P w = .ok .skip w' := by simp [execOp, hop, h1]
    rw [he]
    exact hn .top H' g' w' undef hk h2 h3 (.top _)
  · split at h <;> (try (cases h; done))
    rename_i e sz ps he hps
    split at h <;> (try (cases h; done))
    rename_i hc
    obtain ⟨c1, c2, c3, c4, c5⟩ := hc
    obtain rfl := Option.some.inj h
    have hreps := trXs_rep hR _ _ hps
    refine wp_of_goes (by simp only [execOp, hop] <;> rfl) (goes_lit (ps := ps.map (AX.ev a)) hS he (by simp [c1]) c5 c3 c4 (fun j p hj => ?_) ?_ (fun j p y hj hy => ?_) ?_ hk.2) hn
    · rw [Array.getElem?_map] at hj
      obtain ⟨p', hp', rfl⟩ := Option.map_eq_some_iff.1 hj
      have := litOk_spec _ 0 c2 j p' (by simpa using hp')
      simpa using this
    · have := hreps.1
      simp at this
      simp
      omega
    · rw [Array.getElem?_map] at hj
      obtain ⟨p', hp', rfl⟩ := Option.map_eq_some_iff.1 hj
      refine hreps.2 j _ y ?_ hy
      have h3 : ∀ l : List (Nat × Operand), (List.map act.eval (l.map (·.2))).toArray[j]? = (l[j]?).map (fun p => act.eval p.2) := by
        intro l; simp only [List.getElem?_toArray, List.getElem?_map, Option.map_map]; rfl
      rw [h3, Array.getElem?_toList, hp']
      rfl
    · intro p hp
      obtain ⟨q, hq, rfl⟩ := List.mem_map.1 hp
      exact hk.1 q hq
  · rename_i t n c
    split at h <;> (try (cases h; done))
    rename_i e sz n' _ he hn' hc'
    split at h <;> (try (cases h; done))
    rename_i b z hb hz
    split at h <;> (try (cases h; done))
    rename_i hc
    obtain ⟨c1, c2, c3, c4⟩ := hc
    obtain rfl := Option.some.inj h
    obtain ⟨m, hm, hmb, hk⟩ := hk
    have hr := trX_rep hR hn'
    rw [hm] at hr
    have hv := int_inv hr
    have hv2 : act.eval c = act.eval n := by
      unfold sameOp at c1
      split at c1 <;> simp_all [Act.eval]
    refine wp_of_goes (s := Instr.makeSlice t (.int .i64 m) (.int .i64 m)) ?_ (goes_mk hS he hb hz c2 c3 c4 hmb hk) hn
    simp only [execOp, hop, hv2, hv]
  · split at h <;> (try (cases h; done))
    rename_i e hs hd
    split at h <;> (try (cases h; done))
    rename_i he
    obtain ⟨x', hx, rfl⟩ := one h
    obtain ⟨s', hs', hl, hk⟩ := hk
    have hr := trX_rep hR hx
    rw [hs'] at hr
    have hv := str_inv hr
    refine wp_of_goes (s := convert _ _ (.string s')) ?_ (goes_s2b hS hs hd (isU8_spec he.1) he.2 hl hk) hn
    simp only [execOp, hop, hv] <;> rfl
  · rename_i args ts
    obtain ⟨args⟩ := args
    obtain ⟨ts⟩ := ts
    split at h <;> (try (cases h; done))
    rename_i x1 x2 t u hargs hts
    simp only at hargs hts
    subst hargs; subst hts
    split at h <;> (try (cases h; done))
    rename_i e sz op s' x' he h2
    obtain ⟨hs', hx'⟩ := two h2
    split at h <;> (try (cases h; done))
    rename_i b z hb hz
    split at h <;> (try (cases h; done))
    rename_i hc
    obtain ⟨c2, c3, c4⟩ := hc
    split at h
    · rename_i c1
      obtain rfl := Option.some.inj h
      obtain ⟨y, H', hap, hk⟩ := hk
      obtain ⟨v, w', g', r1, r2, r3, r4⟩ := goes_app (P := P) (t := t) (u := u) (ty := o.type) hS he c1 hb hz c2 c3 c4 (trX_rep hR hs') (trX_rep hR hx') hap
      exact wp_of_goes (s := Builtin.append_ #[t, u] o.type #[act.eval x1, act.eval x2]) (by simp [execOp, hop, resolve, invoke, builtin]) ⟨v, w', g', y, H', r1, r2, r3, r4, hk⟩ hn
    · split at h <;> (try (cases h; done))
      rename_i hui
      obtain rfl := Option.some.inj h
      obtain ⟨y, H', hap, hk⟩ := hk
      obtain ⟨v, w', g', r1, r2, r3, r4⟩ := goes_appz (P := P) (t := t) (u := u) (ty := o.type) hS he (isI64_spec hui) hb hz c2 c3 c4 (trX_rep hR hs') (trX_rep hR hx') hap
      exact wp_of_goes (s := Builtin.append_ #[t, u] o.type #[act.eval x1, act.eval x2]) (by simp [execOp, hop, resolve, invoke, builtin]) ⟨v, w', g', y, H', r1, r2, r3, r4, hk⟩ hn
  · rename_i args ts
    obtain ⟨args⟩ := args
    obtain ⟨ts⟩ := ts
    split at h <;> (try (cases h; done))
    rename_i x1 x2 t u hargs hts
    simp only at hargs hts
    subst hargs; subst hts
    split at h <;> (try (cases h; done))
    rename_i e sz op s' x' he h2
    obtain ⟨hs', hx'⟩ := two h2
    obtain rfl := Option.some.inj h
    obtain ⟨y, H', hap, hk⟩ := hk
    obtain ⟨v, w', g', r1, r2, r3, r4⟩ := goes_copy (P := P) (t := t) (u := u) (ty := o.type) hS he (trX_rep hR hs') (trX_rep hR hx') hap
    exact wp_of_goes (s := Builtin.copy_ #[t, u] o.type #[act.eval x1, act.eval x2]) (by simp [execOp, hop, resolve, invoke, builtin]) ⟨v, w', g', y, H', r1, r2, r3, r4, hk⟩ hn
  · rename_i args ts
    obtain ⟨args⟩ := args
    obtain ⟨ts⟩ := ts
    split at h <;> (try (cases h; done))
    rename_i x1 t hargs hts
    simp only at hargs hts
    subst hargs; subst hts
    split at h <;> (try (cases h; done))
    rename_i e sz x' he hx'
    split at h <;> (try (cases h; done))
    rename_i z hz
    split at h <;> (try (cases h; done))
    rename_i hc
    obtain rfl := Option.some.inj h
    obtain ⟨H', hcl, hk⟩ := hk
    obtain ⟨v, w', g', r1, r2, r3⟩ := goes_clear (P := P) (t := t) (ty := o.type) hS he hz hc.1 hc.2 (trX_rep hR hx') hcl
    exact wp_of_goes (s := Builtin.clear_ #[t] o.type #[act.eval x1]) (by simp [execOp, hop, resolve, invoke, builtin]) ⟨v, w', g', .top, H', r1, r2, r3, .top _, hk⟩ hn
  · rename_i f args ts
    obtain ⟨args⟩ := args
    split at h <;> (try (cases h; done))
    rename_i as has
    simp only at has
    split at h <;> (try (cases h; done))
    · rename_i fid
      obtain rfl := Option.some.inj h
      have hreps := trXs_rep hR _ _ has
      have := hk g w _ hS hreps o act next Qc hn
      unfold Oper.wp
      have he : (execOp act.eval o).run P w = (callFunc fid (List.map act.eval args).toArray).run P w := by
        simp [execOp, hop, resolve, Deferred.ofValue, Act.eval, invoke]
      rw [he]
      exact this
    · obtain ⟨x', hx, rfl⟩ := one h
      have hreps := trXs_rep hR _ _ has
      have hr := trX_rep hR hx
      simp only [as_] at hk
      split at hk <;> (try (exact hk.elim))
      rename_i fid fs cs hv
      rw [hv] at hr
      obtain ⟨first, caps, hfv, hfr, hcr⟩ := hr.func_inv
      have hall : Reps g w (first ++ (List.map act.eval args).toArray ++ caps) (fs ++ as.map (AX.ev a) ++ cs) := by
        refine ⟨by rw [Array.size_append, Array.size_append, List.length_append, List.length_append, hfr.1, hcr.1, hreps.1], fun i v y h1 h2 => ?_⟩
        by_cases hi : i < fs.length
        · rw [List.append_assoc, List.getElem?_append_left hi] at h2
          rw [Array.append_assoc, Array.getElem?_append_left (by rw [hfr.1]; exact hi)] at h1
          exact hfr.2 i v y h1 h2
        · by_cases hi2 : i < fs.length + (as.map (AX.ev a)).length
          · rw [List.append_assoc, List.getElem?_append_right (by omega), List.getElem?_append_left (by omega)] at h2
            rw [Array.append_assoc, Array.getElem?_append_right (by rw [hfr.1]; omega), Array.getElem?_append_left (by rw [hfr.1, hreps.1]; omega), hfr.1] at h1
            exact hreps.2 _ v y h1 h2
          · rw [List.getElem?_append_right (by rw [List.length_append]; omega), List.length_append] at h2
            rw [Array.getElem?_append_right (by rw [Array.size_append, hfr.1, hreps.1]; omega), Array.size_append, hfr.1, hreps.1] at h1
            exact hcr.2 _ v y h1 h2
      have := hk g w _ hS hall o act next Qc hn
      unfold Oper.wp
      have he : (execOp act.eval o).run P w = (callFunc fid (first ++ (List.map act.eval args).toArray ++ caps)).run P w := by
        simp [execOp, hop, resolve, Deferred.ofValue, hfv, invoke]
      rw [he]
      exact this
  · rename_i t m k ok
    split at h <;> (try (cases h; done))
    rename_i str e hmap
    split at h <;> (try (cases h; done))
    rename_i z op m' k' hz h2
    obtain ⟨hm', hk'⟩ := two h2
    obtain rfl := Option.some.inj h
    obtain ⟨y, hy, hk⟩ := hk
    obtain ⟨v, hv, hr⟩ := goes_lookup hS hmap hz (trX_rep hR hm') (trX_rep hR hk') hy
    exact wp_of_goes (s := Instr.lookup t (act.eval m) (act.eval k) ok) (by simp only [execOp, hop] <;> rfl) ⟨v, w, g, y, H, hv, Ext.refl _ _, hS, hr, hk⟩ hn
  · rename_i ty
    obtain rfl := Option.some.inj h
    exact wp_of_goes (s := Instr.makeMap ty none) (by simp only [execOp, hop] <;> rfl) (goes_mkmap hS hk) hn
  · rename_i ty x
    split at h <;> (try (cases h; done))
    rename_i hu
    obtain ⟨x', hx, rfl⟩ := one h
    obtain ⟨y, H', hap, hk⟩ := hk
    exact wp_of_goes (s := Instr.range ty (act.eval x)) (by simp only [execOp, hop] <;> rfl) (goes_range hS hu (trX_rep hR hx) hap hk) hn
  · rename_i x
    obtain ⟨x', hx, rfl⟩ := one h
    obtain ⟨y, H', hap, hk⟩ := hk
    exact wp_of_goes (s := Instr.next (act.eval x) true o.type) (by simp only [execOp, hop] <;> rfl) (goes_next hS (trX_rep hR hx) hap hk) hn
  · rename_i t x hi mx
    split at h <;> (try (cases h; done))
    rename_i e sz x' hi' mx' he hxs
    obtain rfl := Option.some.inj h
    obtain ⟨y, hy, hk⟩ := hk
    have hreps := trXs_rep hR _ _ hxs
    have r1 : Rep g w (act.eval x) (x'.ev a) := hreps.2 0 _ _ rfl rfl
    have r2 : Rep g w (act.eval hi) (hi'.ev a) := hreps.2 1 _ _ rfl rfl
    have r3 : Rep g w (act.eval mx) (mx'.ev a) := hreps.2 2 _ _ rfl rfl
    obtain ⟨v, hv, hr⟩ := run_slice3 (P := P) he r1 r2 r3 hy
    exact wp_of_goes (s := Instr.sliceAt t (act.eval x) none (some (act.eval hi)) (some (act.eval mx))) (by simp only [execOp, hop] <;> rfl) ⟨v, w, g, y, H, hv, Ext.refl _ _, hS, hr, hk⟩ hn
  · rename_i t x lo hi mx
    split at h <;> (try (cases h; done))
    rename_i e sz x' lo' hi' mx' he hxs
    obtain rfl := Option.some.inj h
    obtain ⟨y, hy, hk⟩ := hk
    have hreps := trXs_rep hR _ _ hxs
    have r1 : Rep g w (act.eval x) (x'.ev a) := hreps.2 0 _ _ rfl rfl
    have r2 : Rep g w (act.eval lo) (lo'.ev a) := hreps.2 1 _ _ rfl rfl
    have r3 : Rep g w (act.eval hi) (hi'.ev a) := hreps.2 2 _ _ rfl rfl
    have r4 : Rep g w (act.eval mx) (mx'.ev a) := hreps.2 3 _ _ rfl rfl
    obtain ⟨v, hv, hr⟩ := run_slice3l (P := P) he r1 r2 r3 r4 hy
    exact wp_of_goes (s := Instr.sliceAt t (act.eval x) (some (act.eval lo)) (some (act.eval hi)) (some (act.eval mx))) (by simp only [execOp, hop] <;> rfl) ⟨v, w, g, y, H, hv, Ext.refl _ _, hS, hr, hk⟩ hn
  · rename_i t m k v
    split at h <;> (try (cases h; done))
    rename_i str e m' k' v' hmap hxs
    obtain rfl := Option.some.inj h
    obtain ⟨H', hup, hk⟩ := hk
    have hreps := trXs_rep hR _ _ hxs
    have r1 : Rep g w (act.eval m) (m'.ev a) := hreps.2 0 _ _ rfl rfl
    have r2 : Rep g w (act.eval k) (k'.ev a) := hreps.2 1 _ _ rfl rfl
    have r3 : Rep g w (act.eval v) (v'.ev a) := hreps.2 2 _ _ rfl rfl
    obtain ⟨w', h1, h2, h3⟩ := goes_mapup (P := P) hS hmap r1 r2 r3 hup
    unfold Oper.wp
    have he : (execOp act.eval o).run P w = .ok .skip w' := by simp [execOp, hop, h1]
    rw [he]
    exact hn .top H' g w' undef hk h2 h3 (.top _)
theorem ACalls.mono {f : Nat} {args : List AV} {K K' : AV → AHeap → Prop} (h : ACalls P f args H K) (hk : ∀ y H', K y H' → K' y H') : ACalls P f args H K' :=
  fun g w vs hS hR o act next Qc hn => h g w vs hS hR o act next Qc (fun y H' g' w' v q => hn y H' g' w' v (hk _ _ q))
theorem aop_sound {o : Oper} {p : AOp} {K : AV → AHeap → Prop} {next : Act → World → Prop} {Qc : Exit → Act → World → Prop} (h : trOp P o.op = some p) (hS : Sim g w H) (hR : RepAct g w act a) (hk : aop (ACalls P) p a H K) (hn : Then g w K fun v w' => next (act.put o.dst v) w') : o.wp P act w next Qc := by
  unfold trOp at h
  split at h
  · rename_i q hq
    obtain rfl := Option.some.inj h
    obtain ⟨y, hy, hk⟩ := hk
    obtain ⟨v, hv, hr⟩ := aq_sound hq hS hR hy
    unfold Oper.wp
    rw [hv]
    exact hn y H g w v hk (Ext.refl _ _) hS hr
  · obtain ⟨s, hs, rfl⟩ := Option.map_eq_some_iff.1 h
    exact as_sound hs hS hR hk hn
/-- A guard's slot. -/
theorem guard_is {ops : Array Oper} {o : Oper} {gd : Option (Nat × Bool)} (hR : RepAct g w act a) (h : trGuard ops o.guard = some gd) :
    match gd with
    | none => Region.wanted o (yielded ops act.tmps) = true
    | some (t, want) => ∀ b, gdv (a.getD t .top) want = some b → Region.wanted o (yielded ops act.tmps) = b := by
  unfold trGuard at h
  split at h
  · rename_i hg
    obtain rfl := Option.some.inj h
    simp [Region.wanted, hg]
  · rename_i j want hg
    split at h <;> (try (cases h; done))
    rename_i t ht
    obtain rfl := Option.some.inj h
    intro b hb
    have hlt : t < a.length := by
      rcases Nat.lt_or_ge t a.length with h1 | h1
      · exact h1
      · rw [List.getD_eq_getElem?_getD, List.getElem?_eq_none h1] at hb
        simp [gdv] at hb
    have hg1 : a.getD t .top = a[t] := by
      rw [List.getD_eq_getElem?_getD, List.getElem?_eq_getElem hlt]
      rfl
    rw [hg1] at hb
    have hlt2 : t < act.tmps.size := by rw [hR.size]; exact hlt
    have hrep := hR.rep t act.tmps[t] _ (Array.getElem?_eq_getElem hlt2) (List.getElem?_eq_getElem hlt)
    have hyl : yielded ops act.tmps j = match act.tmps[t] with
      | .bool b => some b
      | _ => none := by
      unfold yielded
      rw [ht]
      simp only [Option.bind_some]
      rw [Array.getElem?_eq_getElem hlt2]
      cases act.tmps[t] <;> rfl
    simp only [Region.wanted, hg, hyl]
    unfold gdv at hb
    split at hb <;> (try (cases hb; done))
    · rename_i b2 hb2
      obtain rfl := Option.some.inj hb
      rw [hb2] at hrep
      rw [bool_inv hrep]
      cases b2 <;> cases want <;> rfl
    · rename_i hb2
      obtain rfl := Option.some.inj hb
      rw [hb2] at hrep
      obtain ⟨vs, hv, hsz, _⟩ := hrep.tup_inv
      rw [hv]
      rfl
theorem aopW_sound {W : List Nat} {o : Oper} {p : AOp} {K : AV → AHeap → Prop} {next : Act → World → Prop} {Qc : Exit → Act → World → Prop} (h : trOpW P W o = some p) (hS : Sim g w H) (hR : RepAct g w act a) (hk : aop (ACalls P) p a H K) (hn : Then g w K fun v w' => next (act.put o.dst v) w') : o.wp P act w next Qc := by
  unfold trOpW at h
  split at h
  · unfold trLit at h
    split at h <;> rename_i hop <;> (try (cases h; done))
    split at h <;> (try (cases h; done))
    rename_i e sz ps he hps
    split at h <;> (try (cases h; done))
    rename_i hc
    obtain ⟨c1, c2, c3, c4, c5⟩ := hc
    obtain rfl := Option.some.inj h
    have hreps := trXs_rep hR _ _ hps
    have hk' : (∀ p ∈ ps, (AX.ev a p).flat = true ∧ (AX.ev a p).cells.length = sz) ∧ K (.wr H.next 0 0 ps.length sz) (H.push (.row e 0 ((ps.map (AX.ev a)).flatMap AV.cells))) := hk
    refine wp_of_goes (by simp only [execOp, hop] <;> rfl) (goes_litw (ps := ps.map (AX.ev a)) hS he (by simp [c1]) c5 c3 c4 (fun j p hj => ?_) ?_ (fun j p y hj hy => ?_) ?_ (by rw [List.length_map]; exact hk'.2)) hn
    · rw [Array.getElem?_map] at hj
      obtain ⟨p', hp', rfl⟩ := Option.map_eq_some_iff.1 hj
      have := litOk_spec _ 0 c2 j p' (by simpa using hp')
      simpa using this
    · have := hreps.1
      simp at this
      simp
      omega
    · rw [Array.getElem?_map] at hj
      obtain ⟨p', hp', rfl⟩ := Option.map_eq_some_iff.1 hj
      refine hreps.2 j _ y ?_ hy
      have h3 : ∀ l : List (Nat × Operand), (List.map act.eval (l.map (·.2))).toArray[j]? = (l[j]?).map (fun p => act.eval p.2) := by
        intro l; simp only [List.getElem?_toArray, List.getElem?_map, Option.map_map]; rfl
      rw [h3, Array.getElem?_toList, hp']
      rfl
    · intro p hp
      obtain ⟨q, hq, rfl⟩ := List.mem_map.1 hp
      exact hk'.1 q hq
  · split at h
    · obtain ⟨p0, h0, hp0⟩ := Option.map_eq_some_iff.1 h
      subst hp0
      clear h
      unfold trLit at h0
      split at h0 <;> rename_i hop <;> (try (cases h0; done))
      split at h0 <;> (try (cases h0; done))
      rename_i e sz ps he hps
      split at h0 <;> (try (cases h0; done))
      rename_i hc
      obtain ⟨c1, c2, c3, c4, c5⟩ := hc
      obtain rfl := Option.some.inj h0
      have hreps := trXs_rep hR _ _ hps
      have hk' : (∀ p ∈ ps, (AX.ev a p).flat = true ∧ (AX.ev a p).cells.length = sz) ∧ K (.wc H.next 0 0 ps.length ps.length sz) (H.push (.row e 0 ((ps.map (AX.ev a)).flatMap AV.cells))) := hk
      refine wp_of_goes (by simp only [execOp, hop] <;> rfl) (goes_litc (ps := ps.map (AX.ev a)) hS he (by simp [c1]) c5 c3 c4 (fun j p hj => ?_) ?_ (fun j p y hj hy => ?_) ?_ (by rw [List.length_map]; exact hk'.2)) hn
      · rw [Array.getElem?_map] at hj
        obtain ⟨p', hp', rfl⟩ := Option.map_eq_some_iff.1 hj
        have := litOk_spec _ 0 c2 j p' (by simpa using hp')
        simpa using this
      · have := hreps.1
        simp at this
        simp
        omega
      · rw [Array.getElem?_map] at hj
        obtain ⟨p', hp', rfl⟩ := Option.map_eq_some_iff.1 hj
        refine hreps.2 j _ y ?_ hy
        have h3 : ∀ l : List (Nat × Operand), (List.map act.eval (l.map (·.2))).toArray[j]? = (l[j]?).map (fun p => act.eval p.2) := by
          intro l; simp only [List.getElem?_toArray, List.getElem?_map, Option.map_map]; rfl
        rw [h3, Array.getElem?_toList, hp']
        rfl
      · intro p hp
        obtain ⟨q, hq, rfl⟩ := List.mem_map.1 hp
        exact hk'.1 q hq
    · exact aop_sound h hS hR hk hn
theorem aopT_sound {W : List Nat} {o : Oper} {K : AV → AHeap → Prop} {next : Act → World → Prop} {Qc : Exit → Act → World → Prop} (hS : Sim g w H) (hR : RepAct g w act a) (hk : aop (ACalls P) (trOpT P W o) a H K) (hn : Then g w K fun v w' => next (act.put o.dst v) w') : o.wp P act w next Qc := by
  unfold trOpT at hk
  cases h : trOpW P W o with
  | some p => rw [h] at hk; exact aopW_sound h hS hR hk hn
  | none => rw [h] at hk; exact hk.elim
theorem put_other (act : Act) (d : Option Nat) (v : Value) : ∀ i, d ≠ some i → (act.put d v).tmps[i]? = act.tmps[i]? := by
  intro i hi
  cases d with
  | none => rfl
  | some d =>
    simp only [Act.put]
    exact Array.getElem?_setIfInBounds_ne (fun e => hi (by rw [e]))
theorem astep_sound {W : List Nat} {ops : Array Oper} {o : Oper} {ao : AOper} {K : List AV → AHeap → Prop} {next : Act → World → Prop} {Qc : Exit → Act → World → Prop} (h : trOper P W ops o = some ao) (hS : Sim g w H) (hR : RepAct g w act a) (hk : astep (ACalls P) ao a H K)
    (hn : ∀ a' H' g' w' act', K a' H' → Ext g w g' w' → Sim g' w' H' → RepAct g' w' act' a' → (∀ i, o.dst ≠ some i → act'.tmps[i]? = act.tmps[i]?) → next act' w') :
    if Region.wanted o (yielded ops act.tmps) then o.wp P act w next Qc ∨ (o.asks P act w ∧ LetsOut Qc) else next (act.put o.dst undef) w := by
  obtain ⟨gd, hg, rfl⟩ := Option.map_eq_some_iff.1 h
  have hgd := guard_is (act := act) hR hg
  have hT : Then g w (fun y H' => K (aput a o.dst y) H') fun v w' => next (act.put o.dst v) w' :=
    fun y H' g' w' v q hE hS' hr => hn _ _ g' w' _ q hE hS' (hR.put hE hr o.dst) (put_other _ _ _)
  unfold astep at hk
  cases gd with
  | none =>
    simp only at hgd hk
    rw [hgd, if_pos rfl]
    exact .inl (aopT_sound hS hR hk hT)
  | some x =>
    obtain ⟨t, want⟩ := x
    simp only at hgd hk
    split at hk <;> (try (exact hk.elim))
    rename_i b hb
    rw [hgd b hb]
    cases hbw : b with
    | true =>
      rw [if_pos rfl]
      rw [hbw] at hk
      left
      refine aopT_sound (W := W) hS hR ?_ hT
      generalize trOpT P W o = p at hk ⊢
      cases p with
      | q q =>
        simp only [agop, if_true] at hk
        obtain ⟨h1, h2⟩ := hk
        obtain ⟨y, hy⟩ := Option.isSome_iff_exists.1 (h1 trivial)
        rw [hy] at h2
        exact ⟨y, hy, h2⟩
      | s s => exact hk
      | c f args =>
        obtain ⟨y, h1, h2⟩ := hk
        exact ⟨y, h1 rfl, h2⟩
    | false =>
      rw [if_neg (by simp)]
      rw [hbw] at hk
      have hk2 : K (aput a o.dst (.tup [])) H := by
        generalize trOpT P W o = p at hk
        cases p with
        | q q => exact hk.2
        | s s => exact hk
        | c f args => obtain ⟨y, h1, h2⟩ := hk; exact h2
      exact hn _ _ g w _ hk2 (Ext.refl _ _) hS (hR.put (Ext.refl _ _) (.tup #[] [] rfl (fun i v y h _ => by simp at h)) o.dst) (put_other _ _ _)
theorem trOpers_get {W : List Nat} {ops : Array Oper} : ∀ (l : List Oper) (al : List AOper), trOpers P W ops l = some al → l.length = al.length ∧ ∀ (i : Nat) (o : Oper), l[i]? = some o → ∃ ao, al[i]? = some ao ∧ trOper P W ops o = some ao
  | [], al, h => by
    obtain rfl := Option.some.inj h
    exact ⟨rfl, fun i o h => by simp at h⟩
  | o :: l, al, h => by
    simp only [trOpers] at h
    split at h <;> (try (cases h; done))
    rename_i x r hx hr
    obtain rfl := Option.some.inj h
    have ih := trOpers_get l r hr
    refine ⟨by simp [ih.1], fun i o' ho => ?_⟩
    cases i with
    | zero => simp at ho; subst ho; exact ⟨x, rfl, hx⟩
    | succ i => exact ih.2 i o' (by simpa using ho)
/-- A region in the text's order. -/
theorem aops_sound {W : List Nat} {ops : Array Oper} {Q : List AV → AHeap → Prop} {Qc : Exit → Act → World → Prop} : ∀ (al : List AOper) (k : Nat) (g : Ghost) (w : World) (H : AHeap) (act : Act) (a : List AV),
    (∀ (i : Nat) (ao : AOper), al[i]? = some ao → ∃ o, ops[k + i]? = some o ∧ trOper P W ops o = some ao) → Sim g w H → RepAct g w act a → aops (ACalls P) al a H Q →
    (∀ a' H' g' w' act', Q a' H' → Ext g w g' w' → Sim g' w' H' → RepAct g' w' act' a' → Qc .normal act' w') → wpOps P ops Qc (List.range' k al.length) act w
  | [], k, g, w, H, act, a, _, hS, hR, hk, hn => hn a H g w act hk (Ext.refl _ _) hS hR
  | ao :: al, k, g, w, H, act, a, hal, hS, hR, hk, hn => by
    obtain ⟨o, ho, htr⟩ := hal 0 ao rfl
    rw [Nat.add_zero] at ho
    simp only [List.length_cons, List.range'_succ]
    rw [wpOps_cons]
    unfold wpOp
    rw [ho]
    simp only [aops] at hk
    exact astep_sound htr hS hR hk (fun a' H' g' w' act' q hE hS' hR' _ => aops_sound al (k + 1) g' w' H' act' a' (fun i ao' hi => by
      have := hal (i + 1) ao' (by simpa using hi)
      rw [show k + 1 + i = k + (i + 1) by omega]
      exact this) hS' hR' q (fun a2 H2 g2 w2 act2 q2 hE2 => hn a2 H2 g2 w2 act2 q2 (hE.trans hE2)))
end
end Go.Proofs.YtmdgjfadbhenjaaGreatDoor.AL

