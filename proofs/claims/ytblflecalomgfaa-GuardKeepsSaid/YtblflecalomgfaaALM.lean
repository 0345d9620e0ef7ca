/- Maps whose keys are texts or whole numbers: what their operations do to the machine's memory is what is told of them. -/
import Derived.Test.YtblflecalomgfaaAL11
import Derived.MapKept
set_option linter.unusedVariables false
set_option linter.unusedSimpArgs false
namespace Go.Proofs.Ytblflecalomgfaa.AL
open Go
section
variable {P : Program} {g : Ghost} {w w' : World} {H : AHeap}
/-- What keys of a kind are compared as. -/
def KeyD (str : Bool) (d : TypeDesc) : Prop := if str = true then d = .string else ∃ k, d = .int k
theorem tKey_spec {t : TypeId} {str : Bool} (h : tKey P t = some str) : ∃ d, P.underlying t = some d ∧ KeyD str d := by
  unfold tKey at h
  split at h <;> (try (cases h; done)) <;> obtain rfl := Option.some.inj h
  · exact ⟨_, by assumption, rfl⟩
  · exact ⟨_, by assumption, _, rfl⟩
theorem tMap_spec {t e : TypeId} {str : Bool} (h : tMap P t = some (str, e)) : ∃ kt d, P.underlying t = some (.map kt e) ∧ P.underlying kt = some d ∧ KeyD str d := by
  unfold tMap at h
  split at h <;> (try (cases h; done))
  rename_i k e' hu
  obtain ⟨s, hs, he⟩ := Option.map_eq_some_iff.1 h
  simp only [Prod.mk.injEq] at he
  obtain ⟨rfl, rfl⟩ := he
  obtain ⟨d, h1, h2⟩ := tKey_spec hs
  exact ⟨k, d, hu, h1, h2⟩
theorem akey_sound {str b : Bool} {d : TypeDesc} {u u' : Value} {k k' : AV} (hd : KeyD str d) (hk : Rep g w u k) (hk' : Rep g w u' k') (h : akey str k k' = some b) : Instr.sameNow d u u' = some b ∧ (b = true → Instr.sameBits 10000 u' u = true) := by
  unfold akey at h
  split at h <;> (try (cases h; done))
  · split at h <;> (try (cases h; done))
    rename_i a c hs
    obtain rfl := Option.some.inj h
    subst hs
    cases hk; cases hk'
    obtain rfl : d = .string := hd
    have he : ∀ a c : ByteArray, (a == c) = decide (a.data.toList = c.data.toList) := fun a c => by
      obtain ⟨⟨a⟩⟩ := a
      obtain ⟨⟨c⟩⟩ := c
      show ((a.toArray == c.toArray) : Bool) = _
      rw [Bool.eq_iff_iff]
      simp
    refine ⟨by simp only [Instr.sameNow, he], fun hb => ?_⟩
    have := of_decide_eq_true hb
    simp only [Instr.sameBits, he]
    simp [this]
  · split at h <;> (try (cases h; done))
    rename_i kk a kk' c hs
    obtain rfl := Option.some.inj h
    obtain ⟨h1, rfl⟩ := hs
    cases hk; cases hk'
    have hstr : str = false := by simpa using h1
    subst hstr
    obtain ⟨kd, rfl⟩ : ∃ k, d = .int k := by simpa [KeyD] using hd
    refine ⟨by simp [Instr.sameNow]; rfl, fun hb => ?_⟩
    have := of_decide_eq_true hb
    simp [Instr.sameBits, this]
def RepMap (g : Ghost) (w : World) (ms : List MapEntry) (es : List (AV × AV)) : Prop := ms.length = es.length ∧ ∀ (i : Nat) (e : MapEntry) (x : AV × AV), ms[i]? = some e → es[i]? = some x → Rep g w e.key x.1 ∧ Rep g w e.val x.2
theorem RepMap.tail {m : MapEntry} {ms : List MapEntry} {x : AV × AV} {es : List (AV × AV)} (h : RepMap g w (m :: ms) (x :: es)) : RepMap g w ms es :=
  ⟨by simpa using h.1, fun i e y h1 h2 => h.2 (i + 1) e y (by simpa using h1) (by simpa using h2)⟩
theorem find_sound {str : Bool} {d : TypeDesc} {u : Value} {k : AV} (hd : KeyD str d) (hk : Rep g w u k) : ∀ (ms : List MapEntry) (es : List (AV × AV)) (i : Nat) (r : Option AV), RepMap g w ms es → amget str k es = some r →
    match r with
    | none => Instr.findNow d u ms i = some none
    | some v => ∃ j e, Instr.findNow d u ms i = some (some (i + j, e.val)) ∧ ms[j]? = some e ∧ Rep g w e.val v
  | [], [], i, r, _, h => by
    obtain rfl := Option.some.inj h
    rfl
  | [], x :: es, _, _, hr, _ => by have := hr.1; simp at this
  | m :: ms, [], _, _, hr, _ => by have := hr.1; simp at this
  | m :: ms, x :: es, i, r, hr, h => by
    have h0 := hr.2 0 m x rfl rfl
    simp only [amget] at h
    split at h <;> (try (cases h; done))
    · rename_i hb
      obtain rfl := Option.some.inj h
      obtain ⟨h1, _⟩ := akey_sound hd hk h0.1 hb
      exact ⟨0, m, by simp [Instr.findNow, h1], rfl, h0.2⟩
    · rename_i hb
      obtain ⟨h1, _⟩ := akey_sound hd hk h0.1 hb
      have ih := find_sound hd hk ms es (i + 1) r hr.tail h
      cases r with
      | none => simp only [Instr.findNow, h1]; exact ih
      | some v =>
        obtain ⟨j, e, h2, h3, h4⟩ := ih
        exact ⟨j + 1, e, by simp only [Instr.findNow, h1, h2]; rw [show i + 1 + j = i + (j + 1) by omega], by simpa using h3, h4⟩
theorem zeroV_spec {t : TypeId} {z : AV} (h : tZeroV P t = some z) : ∃ v, (zeroValue t).run P w = .ok v w ∧ Rep g w v z := by
  unfold tZeroV at h
  split at h <;> (try (cases h; done))
  rename_i i hi
  split at h <;> (try (cases h; done))
  · rename_i cs hz
    obtain ⟨zs, hzs, rfl⟩ := Option.map_eq_some_iff.1 h
    have hr : Reps g w cs zs := by simpa using trV_reps (g := g) (w := w) _ _ hzs
    exact ⟨.agg cs, by simp [zeroValue, typeInfo, hi, hz], .agg _ _ hr.1 hr.2⟩
  · rename_i v _ hz
    exact ⟨v, by simp [zeroValue, typeInfo, hi, hz], trV_rep h⟩
theorem checkKey_run {kt : TypeId} {d : TypeDesc} {str : Bool} (hkt : P.underlying kt = some d) (hd : KeyD str d) (e : Bool) (n : Nat) (u : Value) (w : World) : (Instr.checkKey e (n + 1) kt u).run P w = .ok () w := by
  unfold KeyD at hd
  split at hd
  · subst hd
    simp [Instr.checkKey, run_underlying hkt]
  · obtain ⟨k, rfl⟩ := hd
    simp [Instr.checkKey, run_underlying hkt]
theorem goes_lookup {t e : TypeId} {str ok : Bool} {z : AV} {um uk : Value} {m k y : AV} (hS : Sim g w H) (ht : tMap P t = some (str, e)) (hz : tZeroV P e = some z) (hm : Rep g w um m) (hk : Rep g w uk k) (h : alookup H str z ok k m = some y) :
    ∃ v, (Instr.lookup t um uk ok).run P w = .ok v w ∧ Rep g w v y := by
  obtain ⟨kt, d, h1, h2, h3⟩ := tMap_spec ht
  obtain ⟨zv, hzv, hzr⟩ := zeroV_spec (g := g) (w := w) hz
  have fin : ∀ (b : Bool) (v : Value) (x : AV), Rep g w v x → Rep g w (if ok then .tuple #[v, .bool b] else v) (afound ok b x) := by
    intro b v x hv
    unfold afound
    cases ok
    · exact hv
    · refine .tup _ _ rfl (fun i u c hu hc => ?_)
      match i with
      | 0 => simp at hu hc; subst hu; subst hc; exact hv
      | 1 => simp at hu hc; subst hu; subst hc; exact .bool b
      | i + 2 => simp at hu
  unfold alookup at h
  split at h <;> (try (cases h; done))
  · obtain rfl := Option.some.inj h
    cases hm
    refine ⟨_, ?_, fin false zv z hzr⟩
    simp [Instr.lookup, run_underlying h1, checkKey_run h2 h3, Instr.findKey, run_underlying h2, Instr.findNow, hzv]
  · rename_i id
    split at h <;> (try (cases h; done))
    rename_i es ho
    cases hm
    rename_i b hb
    obtain ⟨b', ms, clock, q1, q2, q3, q4⟩ := hS.live id _ ho
    rw [hb] at q1
    obtain rfl := Option.some.inj q1
    have hrm : RepMap g w ms.toList es := ⟨by simpa using q3, fun i e x he hx => q4 i e x (by simpa using he) hx⟩
    split at h <;> (try (cases h; done))
    · rename_i v hg
      obtain rfl := Option.some.inj h
      obtain ⟨j, en, f1, f2, f3⟩ := find_sound h3 hk ms.toList es 0 (some v) hrm hg
      refine ⟨_, ?_, fin true en.val v f3⟩
      simp [Instr.lookup, run_underlying h1, MapKept.run_getObj_map q2, checkKey_run h2 h3, Instr.findKey, run_underlying h2, f1]
    · rename_i hg
      obtain rfl := Option.some.inj h
      have f1 : Instr.findNow d uk ms.toList 0 = some none := find_sound h3 hk ms.toList es 0 none hrm hg
      refine ⟨_, ?_, fin false zv z hzr⟩
      simp [Instr.lookup, run_underlying h1, MapKept.run_getObj_map q2, checkKey_run h2 h3, Instr.findKey, run_underlying h2, f1, hzv]
theorem sim_new {ob : Obj} {ao : AObj} (hS : Sim g w H) (hgen : ao.gen = 0) (hh : w'.heap = w.heap.push ob) (hro : ∀ g' : Ghost, g'.m H.next 0 = some w.heap.size → Ext g w g' w' → RepObj g' w' H.next ao)
    (h1 : w'.os = w.os) (h2 : w'.tape = w.tape) (h3 : w'.output = w.output) :
    Ext g w (g.add H.next 0 w.heap.size) w' ∧ Sim (g.add H.next 0 w.heap.size) w' (H.push ao) ∧ (g.add H.next 0 w.heap.size).m H.next 0 = some w.heap.size := by
  have hE := ext_push hS hh h1 h2 h3 (m_new hS 0) w.heap.size (Nat.le_refl _)
  have hm : (g.add H.next 0 w.heap.size).m H.next 0 = some w.heap.size := by simp [Ghost.add]
  have hold : ∀ id gen b, (g.add H.next 0 w.heap.size).m id gen = some b → (id = H.next ∧ gen = 0 ∧ b = w.heap.size) ∨ g.m id gen = some b := by
    intro id gen b h
    simp only [Ghost.add] at h
    split at h
    · rename_i hc; exact .inl ⟨hc.1, hc.2, (Option.some.inj h).symm⟩
    · exact .inr h
  have hlive : ∀ id o, H.get id = some o → ∀ b, (g.add H.next 0 w.heap.size).m id o.gen = some b → g.m id o.gen = some b := by
    intro id o ho b hb
    rcases hold _ _ _ hb with ⟨h, _⟩ | h
    · have := H.lt ho; omega
    · exact h
  refine ⟨hE, ⟨fun b hb => ?_, fun id gen b hb => ?_, fun id o ho => ?_, fun id id' o o' b ho ho' hb hb' => ?_, fun id o b ho hb => ?_, fun id o gen b ho hb => ?_⟩, hm⟩
  · have := hS.zlt b hb; rw [hh]; simp; omega
  · rw [hh, push_next]
    rcases hold _ _ _ hb with ⟨rfl, rfl, rfl⟩ | h
    · simp
    · have := hS.mlt _ _ _ h
      simp
      omega
  · rw [push_get] at ho
    split at ho
    · rename_i hid; subst hid
      obtain rfl := Option.some.inj ho
      exact hro _ hm hE
    · exact (hS.live id o ho).ext hE (fun b hb => heap_push_old _ hh (hS.mlt _ _ _ hb).2)
  · rw [push_get] at ho ho'
    split at ho
    · rename_i h4
      split at ho'
      · rename_i h5; rw [h4, h5]
      · obtain rfl := Option.some.inj ho
        have h6 := hlive _ _ ho' _ hb'
        have h7 := (hS.mlt _ _ _ h6).2
        rw [h4] at hb
        rw [hgen] at hb
        rw [hm] at hb
        obtain rfl := Option.some.inj hb
        omega
    · split at ho'
      · rename_i h5
        obtain rfl := Option.some.inj ho'
        have h6 := hlive _ _ ho _ hb
        have h7 := (hS.mlt _ _ _ h6).2
        rw [h5] at hb'
        rw [hgen] at hb'
        rw [hm] at hb'
        obtain rfl := Option.some.inj hb'
        omega
      · exact hS.inj _ _ _ _ b ho ho' (hlive _ _ ho _ hb) (hlive _ _ ho' _ hb')
  · rw [push_get] at ho
    split at ho
    · rename_i hid; subst hid
      obtain rfl := Option.some.inj ho
      rw [hgen] at hb
      rw [hm] at hb
      obtain rfl := Option.some.inj hb
      intro hz
      have := hS.zlt _ hz
      omega
    · exact hS.nz id o b ho (hlive _ _ ho _ hb)
  · rw [push_get] at ho
    split at ho
    · rename_i hid; subst hid
      obtain rfl := Option.some.inj ho
      rcases hold _ _ _ hb with ⟨_, h, _⟩ | h
      · rw [h]; exact Nat.zero_le _
      · rw [m_new hS gen] at h; cases h
    · rcases hold _ _ _ hb with ⟨h, _⟩ | h
      · have := H.lt ho; omega
      · exact hS.gen id o gen b ho h
theorem goes_mkmap {K : AV → AHeap → Prop} {ty : TypeId} (hS : Sim g w H) (hk : K (.map H.next) (H.push (.map []))) : Goes P g w (Instr.makeMap ty none) K := by
  obtain ⟨hE, hS', hm⟩ := sim_new (ao := .map []) (w' := w.alloc (.map #[] 0)) (ob := .map #[] 0) hS rfl (by simp [World.alloc, -World.alloc_eq]) (fun g' hm hE => ⟨w.heap.size, #[], 0, hm, by simp [World.alloc, -World.alloc_eq], rfl, fun i e x he hx => by simp at hx⟩) rfl rfl rfl
  exact ⟨.map (some w.heap.size), _, _, _, _, by simp [Instr.makeMap], hE, hS', .map _ _ hm, hk⟩
/-- A map's entries other ones. -/
theorem sim_map {id b clock clock' : Nat} {ms ms' : Array MapEntry} {es es' : List (AV × AV)} (hS : Sim g w H) (ho : H.get id = some (.map es)) (hb : g.m id 0 = some b) (hc : w.heap[b]? = some (.map ms clock))
    (hh : w'.heap = w.heap.setIfInBounds b (.map ms' clock')) (hr : RepMap g w ms'.toList es') (h1 : w'.os = w.os) (h2 : w'.tape = w.tape) (h3 : w'.output = w.output) : Ext g w g w' ∧ Sim g w' (H.set id (.map es')) := by
  have hbl : b < w.heap.size := (hS.mlt _ _ _ hb).2
  have hidl : id < H.next := (hS.mlt _ _ _ hb).1
  have hsz : w'.heap.size = w.heap.size := by rw [hh]; simp
  have hoth : ∀ k, k ≠ b → w'.heap[k]? = w.heap[k]? := by
    intro k hk
    rw [hh, Array.getElem?_setIfInBounds_ne (Ne.symm hk)]
  have hnew : w'.heap[b]? = some (.map ms' clock') := by
    rw [hh, Array.getElem?_setIfInBounds_self_of_lt hbl]
  have hnz : ¬ g.Z b := hS.nz id _ b ho hb
  have hE : Ext g w g w' := by
    refine ⟨fun _ _ _ h => h, fun _ h => h, fun k hk => hoth k (fun e => hnz (e ▸ hk)), fun k s hs => ?_, by omega, h1, h2, h3, fun _ _ q => q, fun k hk q => hoth k (fun e => q (.inr ⟨id, 0, by rw [e]; exact hb⟩))⟩
    by_cases hkb : k = b
    · subst hkb
      simp [World.shape?, hc] at hs
    · unfold World.shape? at hs ⊢
      rw [hoth k hkb]
      exact hs
  have hget : ∀ id' o', (H.set id (.map es')).get id' = some o' → (id' = id ∧ o' = .map es') ∨ (id' ≠ id ∧ H.get id' = some o') := by
    intro id' o' h
    simp only [AHeap.set] at h
    split at h
    · rename_i hc; exact .inl ⟨hc.1, (Option.some.inj h).symm⟩
    · rename_i hc
      by_cases he : id' = id
      · exact absurd ⟨he, hidl⟩ hc
      · exact .inr ⟨he, h⟩
  refine ⟨hE, ⟨fun k hk => by rw [hsz]; exact hS.zlt k hk, fun i k b' hb' => by rw [hsz]; exact hS.mlt i k b' hb', fun id' o' h => ?_, fun id1 id2 o1 o2 b' q1 q2 r1 r2 => ?_, fun id' o' b' q r => ?_, fun id' o' k b' q r => ?_⟩⟩
  · rcases hget _ _ h with ⟨rfl, rfl⟩ | ⟨hne, h⟩
    · exact ⟨b, ms', clock', hb, hnew, by simpa using hr.1, fun i e x he hx => ⟨(hr.2 i e x (by simpa using he) hx).1.ext hE, (hr.2 i e x (by simpa using he) hx).2.ext hE⟩⟩
    · exact (hS.live _ _ h).ext hE (fun b' hb' => hoth b' (fun e => hne (hS.inj _ _ _ _ b h ho (e ▸ hb') hb)))
  · have k1 : ∃ o, H.get id1 = some o ∧ o.gen = o1.gen := by
      rcases hget _ _ q1 with ⟨rfl, rfl⟩ | ⟨_, h⟩
      · exact ⟨_, ho, rfl⟩
      · exact ⟨_, h, rfl⟩
    have k2 : ∃ o, H.get id2 = some o ∧ o.gen = o2.gen := by
      rcases hget _ _ q2 with ⟨rfl, rfl⟩ | ⟨_, h⟩
      · exact ⟨_, ho, rfl⟩
      · exact ⟨_, h, rfl⟩
    obtain ⟨p1, g1, e1⟩ := k1
    obtain ⟨p2, g2, e2⟩ := k2
    exact hS.inj _ _ p1 p2 b' g1 g2 (by rw [e1]; exact r1) (by rw [e2]; exact r2)
  · rcases hget _ _ q with ⟨rfl, rfl⟩ | ⟨_, h⟩
    · exact hS.nz _ _ b' ho r
    · exact hS.nz _ _ b' h r
  · rcases hget _ _ q with ⟨rfl, rfl⟩ | ⟨_, h⟩
    · have := hS.gen _ (.map es) k b' ho r
      exact this
    · exact hS.gen _ _ k b' h r
theorem mset_sound {str : Bool} {d : TypeDesc} {u uv : Value} {k v : AV} (hd : KeyD str d) (hk : Rep g w u k) (hv : Rep g w uv v) (clock : Nat) : ∀ (ms : List MapEntry) (es es' : List (AV × AV)) (i : Nat), RepMap g w ms es → amset str k v es = some es' →
    (Instr.findNow d u ms i = some none ∧ RepMap g w (ms ++ [⟨u, uv, clock⟩]) es') ∨
    ∃ j e, Instr.findNow d u ms i = some (some (i + j, e.val)) ∧ ms[j]? = some e ∧ Instr.sameBits 10000 e.key u = true ∧ RepMap g w (ms.modify j fun e => { e with key := u, val := uv }) es'
  | [], [], es', i, _, h => by
    obtain rfl := Option.some.inj h
    refine .inl ⟨rfl, rfl, fun i e x h1 h2 => ?_⟩
    match i with
    | 0 => simp at h1 h2; subst h1; subst h2; exact ⟨hk, hv⟩
    | i + 1 => simp at h1
  | [], x :: es, _, _, hr, _ => by have := hr.1; simp at this
  | m :: ms, [], _, _, hr, _ => by have := hr.1; simp at this
  | m :: ms, x :: es, es', i, hr, h => by
    have h0 := hr.2 0 m x rfl rfl
    simp only [amset] at h
    split at h <;> (try (cases h; done))
    · rename_i hb
      obtain rfl := Option.some.inj h
      obtain ⟨h1, h2⟩ := akey_sound hd hk h0.1 hb
      refine .inr ⟨0, m, by simp [Instr.findNow, h1], rfl, h2 rfl, by simpa using hr.1, fun j e y q1 q2 => ?_⟩
      match j with
      | 0 => simp at q1 q2; subst q1; subst q2; exact ⟨hk, hv⟩
      | j + 1 => exact hr.2 (j + 1) e y (by simpa using q1) (by simpa using q2)
    · rename_i hb
      obtain ⟨es2, h3, rfl⟩ := Option.map_eq_some_iff.1 h
      obtain ⟨h1, _⟩ := akey_sound hd hk h0.1 hb
      have cons : ∀ (ms' : List MapEntry), RepMap g w ms' es2 → RepMap g w (m :: ms') (x :: es2) := fun ms' hr' => by
        refine ⟨by simpa using hr'.1, fun j e y q1 q2 => ?_⟩
        match j with
        | 0 => simp at q1 q2; subst q1; subst q2; exact h0
        | j + 1 => exact hr'.2 j e y (by simpa using q1) (by simpa using q2)
      rcases mset_sound hd hk hv clock ms es es2 (i + 1) hr.tail h3 with ⟨f1, f2⟩ | ⟨j, e, f1, f2, f3, f4⟩
      · exact .inl ⟨by simp only [Instr.findNow, h1]; exact f1, cons _ f2⟩
      · exact .inr ⟨j + 1, e, by simp only [Instr.findNow, h1, f1]; rw [show i + 1 + j = i + (j + 1) by omega], by simpa using f2, f3, by simpa using cons _ f4⟩
theorem goes_mapup {t e : TypeId} {str : Bool} {um uk uv : Value} {m k v : AV} {H' : AHeap} (hS : Sim g w H) (ht : tMap P t = some (str, e)) (hm : Rep g w um m) (hk : Rep g w uk k) (hv : Rep g w uv v) (h : amapup H str k v m = some H') :
    ∃ w', (Instr.mapUpdate t um uk uv).run P w = .ok () w' ∧ Ext g w g w' ∧ Sim g w' H' := by
  obtain ⟨kt, d, h1, h2, h3⟩ := tMap_spec ht
  unfold amapup at h
  split at h <;> (try (cases h; done))
  rename_i id
  split at h <;> (try (cases h; done))
  rename_i es ho
  obtain ⟨es', hes, rfl⟩ := Option.map_eq_some_iff.1 h
  cases hm
  rename_i b hb
  obtain ⟨b', ms, clock, q1, q2, q3, q4⟩ := hS.live id _ ho
  rw [hb] at q1
  obtain rfl := Option.some.inj q1
  have hrm : RepMap g w ms.toList es := ⟨by simpa using q3, fun i e x he hx => q4 i e x (by simpa using he) hx⟩
  rcases mset_sound h3 hk hv clock ms.toList es es' 0 hrm hes with ⟨f1, f2⟩ | ⟨j, en, f1, f2, f3, f4⟩
  · refine ⟨_, ?_, sim_map (ms' := ms.push ⟨uk, uv, clock⟩) (clock' := clock + 1) (w' := { w with heap := w.heap.setIfInBounds b (.map (ms.push ⟨uk, uv, clock⟩) (clock + 1)) }) hS ho hb q2 rfl (by simpa using f2) rfl rfl rfl⟩
    simp [Instr.mapUpdate, run_underlying h1, MapKept.run_getObj_map q2, checkKey_run h2 h3, Instr.findKey, run_underlying h2, f1, MapKept.run_setObj_map _ q2]
  · have hj : ms[j]? = some en := by simpa using f2
    have hms : (ms.modify j fun e => { e with key := uk, val := uv }).toList = ms.toList.modify j fun e => { e with key := uk, val := uv } := by simp
    refine ⟨_, ?_, sim_map (ms' := ms.modify j fun e => { e with key := uk, val := uv }) (clock' := clock) (w' := { w with heap := w.heap.setIfInBounds b (.map (ms.modify j fun e => { e with key := uk, val := uv }) clock) }) hS ho hb q2 rfl (by rw [hms]; exact f4) rfl rfl rfl⟩
    simp [Instr.mapUpdate, run_underlying h1, MapKept.run_getObj_map q2, checkKey_run h2 h3, Instr.findKey, run_underlying h2, f1, MapKept.run_setObj_map _ q2, Instr.keyThatStays, hj, f3]
theorem run_slice3 {t e : TypeId} {sz : Nat} {v vh vm : Value} {x hi mx y : AV} (ht : tElem P t = some (e, sz)) (hx : Rep g w v x) (hh : Rep g w vh hi) (hm : Rep g w vm mx) (h : aslice3 sz x hi mx = some y) :
    ∃ u, (Instr.sliceAt t v none (some vh) (some vm)).run P w = .ok u w ∧ Rep g w u y := by
  obtain ⟨hu, hs⟩ := tElem_spec ht
  unfold aslice3 at h
  split at h <;> (try (cases h; done))
  rename_i id gen o n s kh ih km im
  split at h <;> (try (cases h; done))
  rename_i hc
  obtain ⟨rfl, rfl, rfl⟩ := hc
  obtain rfl := Option.some.inj h
  cases hh; cases hm
  obtain ⟨b, c, e', n', rfl, h1, h2, h3, h4, h5⟩ := hx.wr_inv
  have hle : o + n * s ≤ n' := by
    have : n * s ≤ c * s := Nat.mul_le_mul_right _ h4
    omega
  refine ⟨.slice (some ⟨b, o, none⟩) n n, ?_, .wr _ _ _ _ _ b _ e' n' h1 h2 hle (Nat.le_refl _) (by omega)⟩
  have hb1 : (n : Int) ≤ (c : Int) := by omega
  by_cases hn : n = 0
  · subst hn
    simp [Instr.sliceAt, Instr.slice, Instr.sliceBounds, run_sliceBound, run_underlying hu, run_sizeOf hs]
  · simp [Instr.sliceAt, Instr.slice, Instr.sliceBounds, run_sliceBound, run_underlying hu, run_sizeOf hs, hb1, hn, h4, Addr.add_lit]
end
end Go.Proofs.Ytblflecalomgfaa.AL
