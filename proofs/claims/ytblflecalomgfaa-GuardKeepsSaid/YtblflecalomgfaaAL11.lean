/- append, copy, make, []byte(s): what they do to the machine's memory is what is told of them. -/
import Derived.Test.YtblflecalomgfaaAL10
set_option linter.unusedVariables false
set_option linter.unusedSimpArgs false
namespace Go.Proofs.Ytblflecalomgfaa.AL
open Go
section
variable {P : Program} {g : Ghost} {w : World} {H : AHeap}
theorem noInt_spec {u : TypeId} (h : noInt P u = true) : P.underlying u = some .string ∨ ∃ e, P.underlying u = some (.slice e) := by
  unfold noInt at h
  split at h
  · exact .inl (by assumption)
  · exact .inr ⟨_, by assumption⟩
  · cases h
theorem run_app_nil {t u ty e : TypeId} {sz : Nat} (ht : P.underlying t = some (.slice e)) (hs : tSize P e = some sz) (hu : P.underlying u = some .string ∨ ∃ e, P.underlying u = some (.slice e)) {vx : Value} (hl : (Builtin.lenOf vx).run P w = .ok 0 w)
    {us : Array Value} (hf : (Builtin.firstCells sz 0 vx).run P w = .ok us w) : (Builtin.append_ #[t, u] ty #[.slice none 0 0, vx]).run P w = .ok (.slice none 0 0) w := by
  rcases hu with hu | ⟨e', hu⟩ <;> simp [Builtin.append_, run_underlying ht, run_underlying hu, run_sizeOf hs, hl, hf]
theorem run_app_room {t u ty e : TypeId} {sz : Nat} (ht : P.underlying t = some (.slice e)) (hs : tSize P e = some sz) (hu : P.underlying u = some .string ∨ ∃ e, P.underlying u = some (.slice e)) {vx : Value} {n : Nat} (hl : (Builtin.lenOf vx).run P w = .ok n w)
    {us : Array Value} (hf : (Builtin.firstCells sz n vx).run P w = .ok us w) (a : Addr) (sLen sCap : Nat) (hroom : sLen + n ≤ sCap) {w' : World} (hst : (storeCells (a.add (sLen * sz)) us.toList).run P w = .ok () w') :
    (Builtin.append_ #[t, u] ty #[.slice (some a) sLen sCap, vx]).run P w = .ok (.slice (some a) (sLen + n) sCap) w' := by
  rcases hu with hu | ⟨e', hu⟩ <;> simp [Builtin.append_, run_underlying ht, run_underlying hu, run_sizeOf hs, hl, hf, hroom, hst]
theorem run_app_grow {t u ty e : TypeId} {sz : Nat} {i : TypeInfo} {z : Value} (ht : P.underlying t = some (.slice e)) (hi : P.info? e = some i) (hz : i.zero = some z) (hs : i.size = sz) (hu : P.underlying u = some .string ∨ ∃ e, P.underlying u = some (.slice e)) {vx : Value} {n : Nat} (hl : (Builtin.lenOf vx).run P w = .ok n w)
    {us olds : Array Value} (hf : (Builtin.firstCells sz n vx).run P w.drew = .ok us w.drew) (b : Option Addr) (sLen sCap : Nat) (ho : (Builtin.firstCells sz sLen (.slice b sLen sCap)).run P w.drew = .ok olds w.drew) (hg : sCap < sLen + n) (hb : (sLen + n) * i.bytes ≤ 140737488355328) (hp : 0 < i.bytes) :
    (Builtin.append_ #[t, u] ty #[.slice b sLen sCap, vx]).run P w = .ok (.slice (some ⟨w.heap.size, 0, none⟩) (sLen + n) (grownCap w (sLen + n) sCap e)) (w.drew.alloc (.cells (olds ++ us ++ Builtin.zeroCells z.cells (grownCap w (sLen + n) sCap e - (sLen + n))) e)) := by
  have hn : ¬ (sLen + n ≤ sCap) := by omega
  have h1 : (sLen + n) * 1 ≤ (sLen + n) * i.bytes := Nat.mul_le_mul_left _ hp
  have h63' : ¬ (9223372036854775807 < ((sLen : Int) + (n : Int))) := by omega
  have hfit := growslice_fits hg hb
  have h48' : ¬ (281474976710656 < Builtin.nextslicecap (sLen + n) sCap * i.bytes) := by omega
  subst hs
  rcases hu with hu | ⟨e', hu⟩ <;> simp [Builtin.append_, run_underlying ht, run_underlying hu, sizeOf, typeInfo, zeroValue, hi, hz, hl, hn, h63', h48', Question.forced, hf, ho, newRow, grownCap]
theorem pad_spec (z : Array Value) (n : Nat) : (Builtin.zeroCells z n).size = n * z.size := by simp [Builtin.zeroCells]
theorem goes_app {t u ty e : TypeId} {sz by_ : Nat} {zs : List AV} {vs vx : Value} {s x y : AV} {H' : AHeap} (hS : Sim g w H) (ht : tElem P t = some (e, sz)) (hu : noInt P u = true) (hby : tBytes P e = some by_) (hz : tZero P e = some zs) (hzl : zs.length = sz) (hsz : 0 < sz) (hbp : 0 < by_)
    (hs : Rep g w vs s) (hx : Rep g w vx x) (h : aapp e sz by_ H s x = some (y, H')) :
    ∃ v w' g', (Builtin.append_ #[t, u] ty #[vs, vx]).run P w = .ok v w' ∧ Ext g w g' w' ∧ Sim g' w' H' ∧ Rep g' w' v y := by
  obtain ⟨hut, hse⟩ := tElem_spec ht
  have hud := noInt_spec hu
  obtain ⟨i, z, hi, hz1, hz2⟩ := zero_spec hz
  have hsi : i.size = sz := by unfold tSize at hse; rw [hi] at hse; simpa using hse
  have hbi : i.bytes = by_ := by unfold tBytes at hby; rw [hi] at hby; simpa using hby
  have hzc : z.cells.size = sz := by
    have := (trV_reps (g := g) (w := w) _ _ hz2).1
    simp at this
    omega
  unfold aapp at h
  split at h <;> (try (cases h; done))
  rename_i n ys hc
  split at h <;> (try (cases h; done))
  rename_i hone
  obtain ⟨hl, hyl, hfirst⟩ := run_first (P := P) hS hx hc
  obtain ⟨us, hus, hrun⟩ := hfirst n (Nat.le_refl _)
  rw [List.take_of_length_le (by omega)] at hus
  have hul : us.length = ys.length := by simpa using hus.1
  split at h <;> (try (cases h; done))
  · cases hs
    split at h
    · rename_i hn
      subst hn
      simp only [Option.some.injEq, Prod.mk.injEq] at h
      obtain ⟨rfl, rfl⟩ := h
      exact ⟨_, _, _, run_app_nil hut hse hud hl (hrun w rfl), Ext.refl _ _, hS, .nils⟩
    · rename_i hn
      split at h <;> (try (cases h; done))
      rename_i hb
      simp only [Option.some.injEq, Prod.mk.injEq] at h
      obtain ⟨rfl, rfl⟩ := h
      have hr := run_app_grow (t := t) (u := u) (ty := ty) (w := w) hut hi hz1 hsi hud hl (hrun w.drew rfl) none 0 0 (olds := #[]) (by simp [Builtin.firstCells]) (by omega) (by rw [hbi, Nat.zero_add]; exact hb) (by omega)
      simp only [Nat.zero_add, Array.empty_append] at hr
      have hge := grownCap_ge w n 0 e
      obtain ⟨hE, hS', hm, hsh⟩ := sim_push (e := e) (lo := 0) (hi := 0) (us := us.toArray) (pad := Builtin.zeroCells z.cells (grownCap w n 0 e - n)) (w' := w.drew.alloc (.cells (us.toArray ++ Builtin.zeroCells z.cells (grownCap w n 0 e - n)) e)) hS hus
        (by simp [World.alloc, World.drew, -World.alloc_eq, -World.drew_eq]) (fun _ _ => by omega) rfl rfl rfl
      have hlen : (us.toArray ++ Builtin.zeroCells z.cells (grownCap w n 0 e - n)).size = grownCap w n 0 e * sz := by
        rw [Array.size_append, pad_spec, hzc, List.size_toArray, hul, hyl, ← Nat.add_mul]
        congr 1
        omega
      have h1 : n * 1 ≤ n * by_ := Nat.mul_le_mul_left _ hbp
      refine ⟨_, _, _, hr, hE, hS', ?_⟩
      rw [hlen] at hsh
      exact .wr _ _ _ _ _ _ _ e _ hm hsh (by omega) hge (by
        have := grownCap_le_maxLen w n 0 e (by unfold maxLen; omega)
        unfold maxLen at this
        omega)
  · rename_i id gen len s2
    split at h <;> (try (cases h; done))
    rename_i e2 g2 cs ho
    split at h <;> (try (cases h; done))
    rename_i hcc
    obtain ⟨rfl, rfl, rfl, hcl, hb⟩ := hcc
    simp only [Option.some.injEq, Prod.mk.injEq] at h
    obtain ⟨rfl, rfl⟩ := h
    obtain ⟨b, c, e', n', rfl, h1, h2, h3, h4, h5⟩ := hs.wr_inv
    have he : e' = e2 := by
      obtain ⟨b', cur, lo, hi', q1, q2, _⟩ := hS.live id _ ho
      rw [h1] at q1
      obtain rfl := Option.some.inj q1
      unfold World.shape? at h2
      rw [q2] at h2
      simp only [Option.some.injEq, Prod.mk.injEq] at h2
      exact h2.1.symm
    subst he
    by_cases hroom : len + n ≤ c
    · have hfit : len * s2 + ys.length ≤ n' := by
        have : len * s2 + n * s2 ≤ c * s2 := by rw [← Nat.add_mul]; exact Nat.mul_le_mul_right _ hroom
        omega
      obtain ⟨w', r1, hE, hS', hm⟩ := goes_cells (P := P) (gen' := g2 + 1) (o := len * s2) hS ho h1 (.inr rfl) hus hone h2 hfit (by omega)
      have hst : (storeCells ((⟨b, 0, none⟩ : Addr).add (len * s2)) us).run P w = .ok () w' := by
        rw [Addr.add_lit, Nat.zero_add]; exact r1
      have hr := run_app_room (t := t) (u := u) (ty := ty) (w := w) hut hse hud hl (hrun w rfl) ⟨b, 0, none⟩ len c hroom hst
      have e1 : cs.take (len * s2) ++ ys ++ cs.drop (len * s2 + ys.length) = cs ++ ys := by
        rw [← hcl, List.take_length, List.drop_eq_nil_of_le (by omega), List.append_nil]
      rw [e1] at hS'
      exact ⟨_, _, _, hr, hE, hS', .wr _ _ _ _ _ _ c e' n' hm (hE.shape _ _ h2) h3 hroom h5⟩
    · have hxs : acells H s2 (.wr id g2 0 len s2) = some (len, cs) := by
        have h7 : (cs.drop 0).take (len * s2) = cs := by rw [List.drop_zero, List.take_of_length_le (by omega)]
        simp [acells, ho, hcl, List.take_of_length_le (show cs.length ≤ len * s2 by omega)]
      obtain ⟨_, _, hfo⟩ := run_first (P := P) hS hs hxs
      obtain ⟨os, hos, hro⟩ := hfo len (Nat.le_refl _)
      rw [List.take_of_length_le (by omega)] at hos
      have hol : os.length = cs.length := by simpa using hos.1
      have hr := run_app_grow (t := t) (u := u) (ty := ty) (w := w) hut hi hz1 hsi hud hl (hrun w.drew rfl) (some ⟨b, 0, none⟩) len c (hro w.drew rfl) (by omega) (by rw [hbi]; exact hb) (by omega)
      have hge := grownCap_ge w (len + n) c e'
      have hboth : Reps g w (os.toArray ++ us.toArray) (cs ++ ys) := by
        refine ⟨by simp; omega, fun k v y hv hy => ?_⟩
        by_cases hk : k < cs.length
        · rw [List.getElem?_append_left hk] at hy
          rw [Array.getElem?_append_left (by simp; omega)] at hv
          exact hos.2 k v y hv hy
        · rw [List.getElem?_append_right (by omega)] at hy
          rw [Array.getElem?_append_right (by simp; omega)] at hv
          simp only [List.size_toArray, hol] at hv
          exact hus.2 _ v y hv hy
      obtain ⟨hE, hS', hm, hsh⟩ := sim_grow (lo := 0) (hi := 0) (us := os.toArray ++ us.toArray) (pad := Builtin.zeroCells z.cells (grownCap w (len + n) c e' - (len + n))) (w' := w.drew.alloc (.cells (os.toArray ++ us.toArray ++ Builtin.zeroCells z.cells (grownCap w (len + n) c e' - (len + n))) e')) hS ho hboth
        (by simp [World.alloc, World.drew, -World.alloc_eq, -World.drew_eq]) (fun _ _ => by omega) rfl rfl rfl
      have hlen : (os.toArray ++ us.toArray ++ Builtin.zeroCells z.cells (grownCap w (len + n) c e' - (len + n))).size = grownCap w (len + n) c e' * s2 := by
        rw [Array.size_append, Array.size_append, pad_spec, hzc, List.size_toArray, List.size_toArray, hul, hol, hyl, hcl, ← Nat.add_mul, ← Nat.add_mul]
        congr 1
        omega
      have h6 : (len + n) * 1 ≤ (len + n) * by_ := Nat.mul_le_mul_left _ hbp
      refine ⟨_, _, _, hr, hE, hS', ?_⟩
      rw [hlen] at hsh
      exact .wr _ _ _ _ _ _ _ e' _ hm hsh (by omega) hge (by
        have := grownCap_le_maxLen w (len + n) c e' (by unfold maxLen; omega)
        unfold maxLen at this
        omega)
theorem goes_copy {t u ty e : TypeId} {sz : Nat} {vd vx : Value} {dd x y : AV} {H' : AHeap} (hS : Sim g w H) (ht : tElem P t = some (e, sz)) (hd : Rep g w vd dd) (hx : Rep g w vx x) (h : acopy sz H dd x = some (y, H')) :
    ∃ v w' g', (Builtin.copy_ #[t, u] ty #[vd, vx]).run P w = .ok v w' ∧ Ext g w g' w' ∧ Sim g' w' H' ∧ Rep g' w' v y := by
  obtain ⟨hut, hse⟩ := tElem_spec ht
  unfold acopy at h
  split at h <;> (try (cases h; done))
  rename_i n ys hc
  split at h <;> (try (cases h; done))
  rename_i hone
  obtain ⟨hl, hyl, hfirst⟩ := run_first (P := P) hS hx hc
  split at h <;> (try (cases h; done))
  · simp only [Option.some.injEq, Prod.mk.injEq] at h
    obtain ⟨rfl, rfl⟩ := h
    cases hd
    obtain ⟨us, hus, hrun⟩ := hfirst 0 (Nat.zero_le _)
    exact ⟨.int .i64 0, w, g, by simp [Builtin.copy_, run_underlying hut, run_sizeOf hse, hl, hrun w rfl, goInt, Nat.min_zero], Ext.refl _ _, hS, .int _ _⟩
  · simp only [Option.some.injEq, Prod.mk.injEq] at h
    obtain ⟨rfl, rfl⟩ := h
    cases hd
    obtain ⟨us, hus, hrun⟩ := hfirst 0 (Nat.zero_le _)
    have : us = [] := by
      have := hus.1
      simp at this
      exact this
    subst this
    exact ⟨.int .i64 0, w, g, by simp [Builtin.copy_, run_underlying hut, run_sizeOf hse, hl, hrun w rfl, goInt, Nat.min_zero, storeCells], Ext.refl _ _, hS, .int _ _⟩
  · rename_i id gen off len s2
    split at h <;> (try (cases h; done))
    rename_i e2 g2 cs ho
    split at h <;> (try (cases h; done))
    rename_i hcc
    obtain ⟨rfl, rfl, hle⟩ := hcc
    simp only [Option.some.injEq, Prod.mk.injEq] at h
    obtain ⟨rfl, rfl⟩ := h
    obtain ⟨b, c, e', n', rfl, h1, h2, h3, h4, h5⟩ := hd.wr_inv
    have he : e' = e2 := by
      obtain ⟨b', cur, lo, hi', q1, q2, _⟩ := hS.live id _ ho
      rw [h1] at q1
      obtain rfl := Option.some.inj q1
      unfold World.shape? at h2
      rw [q2] at h2
      simp only [Option.some.injEq, Prod.mk.injEq] at h2
      exact h2.1.symm
    subst he
    obtain ⟨us, hus, hrun⟩ := hfirst (min n len) (Nat.min_le_left _ _)
    have hyl2 : (ys.take (min n len * s2)).length = min n len * s2 := by
      have : min n len * s2 ≤ n * s2 := Nat.mul_le_mul_right _ (Nat.min_le_left _ _)
      simp
      omega
    have hml : min n len * s2 ≤ len * s2 := Nat.mul_le_mul_right _ (Nat.min_le_right _ _)
    have hlc : len * s2 ≤ c * s2 := Nat.mul_le_mul_right _ h4
    obtain ⟨w', r1, hE, hS', hm⟩ := goes_cells (P := P) (gen' := g2) (o := off) hS ho h1 (.inl rfl) hus (by rw [List.all_eq_true] at hone ⊢; exact fun y hy => hone y (List.mem_of_mem_take hy)) h2 (by omega) (by omega)
    rw [hyl2] at hS'
    refine ⟨.int .i64 (min n len : Nat), w', _, ?_, hE, hS', .int _ _⟩
    have hmin : Nat.min n len = min n len := rfl
    simp [Builtin.copy_, run_underlying hut, run_sizeOf hse, hl, hmin, hrun w rfl, r1, goInt]
theorem goes_mk {t e : TypeId} {sz by_ m : Nat} {zs : List AV} {K : AV → AHeap → Prop} (hS : Sim g w H) (ht : tElem P t = some (e, sz)) (hby : tBytes P e = some by_) (hz : tZero P e = some zs) (hzl : zs.length = sz) (hsz : 0 < sz) (hbp : 0 < by_) (hb : m * by_ ≤ 281474976710656)
    (hk : K (.wr H.next 0 0 m sz) (H.push (.row e 0 (List.replicate m zs).flatten))) : Goes P g w (Instr.makeSlice t (.int .i64 m) (.int .i64 m)) K := by
  obtain ⟨hut, hse⟩ := tElem_spec ht
  obtain ⟨i, z, hi, hz1, hz2⟩ := zero_spec hz
  have hsi : i.size = sz := by unfold tSize at hse; rw [hi] at hse; simpa using hse
  have hbi : i.bytes = by_ := by unfold tBytes at hby; rw [hi] at hby; simpa using hby
  have hrz := trV_reps (g := g) (w := w) _ _ hz2
  have hzc : z.cells.size = sz := by
    have := hrz.1
    simp at this
    omega
  have h1 : m * 1 ≤ m * by_ := Nat.mul_le_mul_left _ hbp
  have hr := run_make (P := P) w t e i z hut hi hz1 .i64 .i64 (m : Int) (m : Int) (by omega) (by omega) (by
    have h2 : ((i.bytes * m : Nat) : Int) ≤ 281474976710656 := by rw [hbi, Nat.mul_comm]; omega
    rwa [Int.natCast_mul] at h2) (by omega)
  simp only [Int.toNat_natCast] at hr
  have hreps : Reps g w (madeCells z.cells (m * i.size)) (List.replicate m zs).flatten := by
    have hlz : (List.replicate m zs).flatten.length = m * sz := by simp [hzl]
    refine ⟨by rw [size_madeCells, hlz, hsi], fun k v y hv hy => ?_⟩
    have hk : k < m * sz := by rw [← hlz]; exact (List.getElem?_eq_some_iff.1 hy).1
    have hkm : k % sz < sz := Nat.mod_lt _ hsz
    have hy2 : zs[k % sz]? = some y := by
      have : ∀ (m k : Nat), k < m * sz → (List.replicate m zs).flatten[k]? = zs[k % sz]? := by
        intro m
        induction m with
        | zero => intro k hk; simp at hk
        | succ m ih =>
          intro k hk
          rw [List.replicate_succ, List.flatten_cons]
          by_cases hks : k < sz
          · rw [List.getElem?_append_left (by omega), Nat.mod_eq_of_lt hks]
          · rw [List.getElem?_append_right (by omega), hzl, ih (k - sz) (by rw [Nat.succ_mul] at hk; omega)]
            congr 1
            rw [← Nat.mod_eq_sub_mod (by omega)]
      rw [← this m k hk]
      exact hy
    have hv2 : z.cells[k % sz]? = some v := by
      simp [madeCells, hsi, hk, hzc] at hv
      rw [← hv]
      have : k % sz < z.cells.size := by omega
      simp [this]
    exact hrz.2 _ v y (by simpa using hv2) hy2
  obtain ⟨hE, hS', hm, hsh⟩ := sim_push (e := e) (pad := #[]) (lo := 0) (hi := 0) (w' := w.alloc (.cells (madeCells z.cells (m * i.size)) e)) hS hreps (by simp [World.alloc, -World.alloc_eq]) (fun _ _ => by omega) rfl rfl rfl
  rw [empty_pad, size_madeCells] at hsh
  exact ⟨_, _, _, _, _, hr, hE, hS', .wr _ _ _ _ _ _ _ e _ hm hsh (by rw [hsi]; omega) (Nat.le_refl _) (by omega), hk⟩
theorem goes_s2b {src dst e : TypeId} {s : ByteArray} {K : AV → AHeap → Prop} (hS : Sim g w H) (hs : P.underlying src = some .string) (hd : P.underlying dst = some (.slice e)) (he : P.underlying e = some (.int .u8)) (hl : s.size ≤ 9223372036854775807)
    (hk : K (.wr H.next 0 0 s.size 1) (H.push (.row e 0 (s.data.toList.map fun b => .int .u8 (b.toNat : Int))))) : Goes P g w (convert src dst (.string s)) K := by
  have hr := Lib.run_convert_string_bytes (P := P) w src dst e s hs hd he
  have hreps : Reps g w (s.data.map fun b => Value.int .u8 b.toNat) (s.data.toList.map fun b => .int .u8 (b.toNat : Int)) := by
    refine ⟨by simp, fun i v y hv hy => ?_⟩
    rw [List.getElem?_map] at hy
    rw [Array.getElem?_map] at hv
    obtain ⟨b1, hb1, rfl⟩ := Option.map_eq_some_iff.1 hv
    obtain ⟨b2, hb2, rfl⟩ := Option.map_eq_some_iff.1 hy
    have : b1 = b2 := by
      have h3 : s.data.toList[i]? = s.data[i]? := by simp
      rw [h3, hb1] at hb2
      exact Option.some.inj hb2
    subst this
    exact .int _ _
  have hheap : (Lib.bytesWorld w e s).heap = w.heap.push (.cells (Lib.bytesCells w e s) e ((Lib.bytesCells w e s).size, (Lib.bytesCells w e s).size + 1)) := by
    apply Array.ext
    · rw [Lib.bytesWorld_size]; simp
    · intro i h1 h2
      have h3 : (Lib.bytesWorld w e s).heap[i]? = (w.heap.push (.cells (Lib.bytesCells w e s) e ((Lib.bytesCells w e s).size, (Lib.bytesCells w e s).size + 1)))[i]? := by
        by_cases hi : i < w.heap.size
        · rw [Lib.bytesWorld_at_old w e s i hi, Array.getElem?_push, if_neg (by omega)]
        · have : i = w.heap.size := by rw [Lib.bytesWorld_size] at h1; omega
          subst this
          rw [Lib.bytesWorld_at_new]
          simp
      rw [Array.getElem?_eq_getElem h1, Array.getElem?_eq_getElem h2] at h3
      exact Option.some.inj h3
  have hge := grownCap_ge w s.size 0 e
  obtain ⟨hE, hS', hm, hsh⟩ := sim_push (e := e) (w' := Lib.bytesWorld w e s) (us := s.data.map fun (b : UInt8) => Value.int .u8 b.toNat) (pad := Array.replicate (grownCap w s.size 0 e - s.size) (Value.int .u8 0)) hS hreps hheap (fun i hi => by
    have : (Lib.bytesCells w e s).size = (s.data.map (fun (b : UInt8) => Value.int .u8 b.toNat) ++ Array.replicate (grownCap w s.size 0 e - s.size) (Value.int .u8 0)).size := rfl
    omega) rfl rfl rfl
  refine ⟨_, _, _, _, _, hr, hE, hS', .wr _ _ _ _ _ _ _ e _ hm hsh ?_ hge ?_, hk⟩
  · have h4 : s.data.size = s.size := rfl
    simp [h4]
    omega
  · have := grownCap_le_maxLen w s.size 0 e (by unfold maxLen; omega)
    unfold maxLen at this
    omega
end
end Go.Proofs.Ytblflecalomgfaa.AL
