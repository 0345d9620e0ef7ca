/- Builders told: a row of two cells, of which the second is the bytes so far. -/
import Derived.Test.YtfilheaaacffmaaQKvTextsALBld
import Derived.Test.YtfilheaaacffmaaQKvTextsALDBld
import Derived.Test.YtfilheaaacffmaaQKvTextsALA4
import Derived.Shelf.Lay
set_option linter.unusedVariables false
set_option linter.unusedSimpArgs false
set_option maxRecDepth 100000
set_option maxHeartbeats 16000000
namespace Go.Proofs
open Go.Shelf
shelf_lay Lays.n169 Nm 169 at Try as Try.lays169
/-- The numbers of copyCheck's closure. -/
def Try.lays240_ren : Ren where
  f := fun x => match x with
    | 240 => 150
    | 276 => 177
    | n => n
  t := fun x => match x with
    | 0 => 0
    | 4 => 4
    | 9 => 9
    | 20 => 20
    | 70 => 143
    | 72 => 145
    | 37 => 107
    | 164 => 192
    | n => n
  g := fun x => x
theorem Try.lays240 : Lays.n240 Try.prog Try.lays240_ren where
  mixed := rfl
  f240 := Try.func150.trans (congrArg some rfl)
  f276 := Try.func177.trans (congrArg some rfl)
  t0 := Try.underlying0
  a0 := Try.isAgg0
  z0 := Try.sizeOf0
  v0 := Try.zeroValue0
  t4 := Try.underlying4
  a4 := Try.isAgg4
  z4 := Try.sizeOf4
  v4 := Try.zeroValue4
  t9 := Try.underlying9
  a9 := Try.isAgg9
  z9 := Try.sizeOf9
  v9 := Try.zeroValue9
  t20 := Try.underlying20
  a20 := Try.isAgg20
  z20 := Try.sizeOf20
  v20 := Try.zeroValue20
  t70 := Try.underlying143
  a70 := Try.isAgg143
  z70 := Try.sizeOf143
  v70 := Try.zeroValue143
  t72 := Try.underlying145
  a72 := Try.isAgg145
  z72 := Try.sizeOf145
  v72 := Try.zeroValue145
  t164 := Try.underlying192
  a164 := Try.isAgg192
  z164 := Try.sizeOf192
  v164 := Try.zeroValue192
theorem Try.Builder_Extra_169 : Builder.Extra Try.prog Try.lays169_ren where
  sizeBuilder := by kernel_rfl
  liesBuilder := by kernel_rfl
  t5 := Try.underlying5
  a5 := Try.isAgg5
  z5 := Try.sizeOf5
  v5 := Try.zeroValue5
  infoByte := by kernel_rfl
  cellsByte := by kernel_rfl
  sizeByte := by kernel_rfl
  neB5 := by decide
namespace Ytfilheaaacffmaa.AL
open Go Go.RowKit
attribute [local go_sem] go_seq go_skip go_region go_regionN go_fregion rgF_some go_cond go_block go_exit go_ret nxt_nil nxt_code nxt_blk nxt_cut leave_nil leave_code leave_cut leave_blk rtn_nil rtn_code rtn_blk rtn_cut cnd_t cnd_f rgn_nil rgY_some rgY_none rgH_some rgP_some retTo_is rgV_func grd_und grd_tt grd_ff grd_tf grd_ft rgn_q rgn_alloc rgn_box rgn_store rgn_lit rgn_litw litCells_nil litCells_cons rgn_app rgn_copy rgn_mk rgn_s2b rgn_call rgn_callv rgn_stop rgn_slice3 aslice3 rgn_slice3l aslice3l rgn_appz rgn_clear rgn_range rgn_next arange acap rgn_put rgn_mkmap rgn_lookup rgn_mapup alookup_nilm alookup_map amapup_map afound_ok afound_no rgn_c rgn_cv qclV_func aloadr rgn_guard post_ret post_normal retY_some ares aresL ares1 AX.ev aput List.getD_cons_zero List.getD_cons_succ List.set_cons_zero List.set_cons_succ List.map_cons List.map_nil aq abin aint astr abeq aconv asame aextract alenS alenL_nils alenL_emp alenL_imm alenL_wr alenL_wc aun apart aload afieldAddr afield aidxSl_wr aidxSl_wc aidxSl_imm aidxPt aidxStr aidxArr abound asliceStr asliceSl asliceArr abest anonil afill astore acells_nils acells_emp acells_imm acells_wr acells_wc acells_str acopy litAll amk as2b anil nilOf aseq aeqs aeqv fits fit1 hp_next hp_push hp_get hp_set List.length_cons List.length_nil List.getElem?_cons_zero List.getElem?_cons_succ List.cons_append List.nil_append List.append_nil List.take_succ_cons List.take_zero List.drop_succ_cons List.drop_zero List.all_cons List.all_nil Option.map_some Option.some.injEq Bool.and_true Bool.true_and Bool.false_eq_true if_true if_false ite_true ite_false Bool.and_self true_and and_true and_self Nat.zero_add Nat.le_refl Int.toNat_natCast beq_self_eq_true eq_self tops_zero tops_succ Int.natCast_nonneg List.take_nil List.drop_nil Option.map_none flat_bool one_bool cells_bool flat_int one_int cells_int flat_str one_str cells_str flat_nilp one_nilp cells_nilp flat_ptr one_ptr cells_ptr flat_nils one_nils cells_nils flat_imm one_imm cells_imm flat_wr one_wr cells_wr flat_wc one_wc cells_wc flat_func one_func cells_func flat_nilf one_nilf cells_nilf flat_map one_map cells_map flat_nilm one_nilm cells_nilm flat_iface one_iface cells_iface flat_nili one_nili cells_nili flat_rd one_rd cells_rd flat_emp one_emp cells_emp flat_byteV one_byteV cells_byteV flat_agg cells_agg one_agg B_size B_list B_ext B_toList B_app List.take_length Int.le_refl
section
variable {g : Ghost} {w w' : World} {H : AHeap}
theorem sim_freeze {id b : Nat} {e : TypeId} {gen : Nat} {cs : List AV} {cur : Array Value} {f f' : Nat × Nat} (hS : Sim g w H) (ho : H.get id = some (.row e gen cs)) (hb : g.m id gen = some b)
    (hold : w.heap[b]? = some (.cells cur e f)) (hnew : w'.heap[b]? = some (.cells cur e f')) (hoth : ∀ k, k ≠ b → w'.heap[k]? = w.heap[k]?) (hsz : w'.heap.size = w.heap.size) (h1 : w'.os = w.os) (h2 : w'.tape = w.tape) (h3 : w'.output = w.output) :
    Ext g w g w' ∧ Sim g w' (H.kill id) := by
  have hnz : ¬ g.Z b := hS.nz id _ b ho hb
  have hE : Ext g w g w' := ⟨fun _ _ _ h => h, fun _ h => h, fun k hk => hoth k (fun e => hnz (e ▸ hk)), fun k s hk => by
    by_cases hkb : k = b
    · subst hkb
      unfold World.shape? at hk ⊢
      rw [hold] at hk
      rw [hnew]
      exact hk
    · unfold World.shape? at hk ⊢
      rw [hoth k hkb]
      exact hk, Nat.le_of_eq hsz.symm, h1, h2, h3, fun _ _ h => h, fun k hk hkn => hoth k (fun e => hkn (e ▸ .inr ⟨_, _, hb⟩))⟩
  have hget : ∀ i o, (H.kill id).get i = some o → i ≠ id ∧ H.get i = some o := by
    intro i o h
    simp only [AHeap.kill] at h
    split at h
    · cases h
    · exact ⟨by assumption, h⟩
  refine ⟨hE, ⟨fun k hk => by rw [hsz]; exact hS.zlt k hk, fun i k c h => ⟨(hS.mlt _ _ _ h).1, by rw [hsz]; exact (hS.mlt _ _ _ h).2⟩, fun i o h => (hS.live i o (hget i o h).2).ext hE (fun k hk => hoth k (fun e => (hget i o h).1 (hS.inj _ _ _ _ k (hget i o h).2 ho hk (e ▸ hb)))), fun i i' o o' c h h' => hS.inj _ _ _ _ c (hget _ _ h).2 (hget _ _ h').2, fun i o c h => hS.nz _ _ _ (hget _ _ h).2, fun i o k c h => hS.gen _ _ _ _ (hget _ _ h).2, hS.var.ext hE⟩⟩
end
/-- A builder's row. -/
def bldR (p v : AV) : AObj := .row 145 0 [p, v]
theorem bldR_is (p v : AV) : bldR p v = .row 145 0 [p, v] := rfl
section
variable {H : AHeap} {K : AV → AHeap → Prop} {id : Nat} {p v : AV}
theorem frozen_no {w : World} {b : Nat} {cur : Array Value} {e : TypeId} {lo hi : Nat} {o : Nat} (h : w.heap[b]? = some (.cells cur e (lo, hi))) (hf : ¬ (lo ≤ o ∧ o < hi)) : w.frozen? ⟨b, o, none⟩ = false := by
  simp only [World.frozen?, h]
  simpa using hf
theorem bcheck_a (hg : H.get id = some (bldR p v)) (hp : p = .nilp ∨ p = .ptr id 0 0) (h : K (.tup []) (H.set id (bldR (.ptr id 0 0) v))) : (ACalls Try.prog) 150 [.ptr id 0 0] H K :=
  acalls_calls t150 fun g w vs hS hR => by
    obtain ⟨u, rfl, h1⟩ := reps_one hR
    obtain ⟨b, rfl, hm⟩ := h1.ptr_inv
    obtain ⟨b', cur, lo, hi, hm', hh, hfz, hlen, hcell⟩ := hS.live id _ hg
    rw [show g.m id 0 = some b' from hm'] at hm
    obtain rfl := Option.some.inj hm
    have hlen : 2 ≤ cur.size := hlen
    obtain ⟨u0, hu0, hr0⟩ := hcell 0 p rfl
    have c0 : w.cell? ⟨b', 0, none⟩ = some u0 := by
      simp only [World.cell?, hh]
      exact hu0
    have hsh : w.shape? b' = some (145, cur.size) := by
      simp only [World.shape?, hh]
    rcases hp with rfl | rfl
    · have e0 : u0 = .pointer none := by cases hr0; rfl
      rw [e0] at c0
      refine (bld_fresh Try.lays240 (by kernel_rfl) b' cur.size w hlen c0 hsh (frozen_no hh (hfz 0 (by omega)))).mono (fun e w' he => ?_)
      obtain ⟨rfl, rfl⟩ := he
      have hset : (w.setCell ⟨b', 0, none⟩ (.pointer (some ⟨b', 0, none⟩))).heap = w.heap.setIfInBounds b' (.cells (cur.setIfInBounds 0 (.pointer (some ⟨b', 0, none⟩))) 145 (lo, hi)) := by
        apply Array.ext_getElem?
        intro k
        simp only [World.setCell, Array.getElem?_modify]
        by_cases hk : b' = k
        · subst hk
          rw [if_pos rfl, hh, Array.getElem?_setIfInBounds_self_of_lt (hS.mlt _ _ _ hm').2]
          rfl
        · rw [if_neg hk, Array.getElem?_setIfInBounds_ne hk]
      obtain ⟨hE, hS', hm2⟩ := sim_cells (gen' := 0) (ys := [.ptr id 0 0, v]) (w' := w.setCell ⟨b', 0, none⟩ (.pointer (some ⟨b', 0, none⟩))) hS hg hm' (.inl rfl) hh hfz hset (by simp) hlen (fun i y hy => by
        match i, hy with
        | 0, hy =>
          obtain rfl : AV.ptr id 0 0 = y := Option.some.inj hy
          exact ⟨_, by rw [Array.getElem?_setIfInBounds_self_of_lt (by omega)], .ptr _ _ _ _ hm'⟩
        | 1, hy =>
          obtain ⟨u1, hu1, hr1⟩ := hcell 1 y hy
          exact ⟨u1, by rw [Array.getElem?_setIfInBounds_ne (by decide)]; exact hu1, hr1⟩
        | i + 2, hy => simp at hy) rfl rfl rfl
      exact ⟨_, .tup [], _, _, rfl, h, hE, hS', .tup _ _ rfl (fun i v y h1 h2 => by simp at h1)⟩
    · obtain ⟨b2, e0, hb2⟩ := hr0.ptr_inv
      rw [show g.m id 0 = some b' from hm'] at hb2
      obtain rfl := Option.some.inj hb2
      rw [e0] at c0
      refine (Any.Builder_copyCheck_used Try.lays240 ⟨by kernel_rfl, by kernel_rfl⟩ b' w c0).mono (fun e w' he => ?_)
      obtain ⟨rfl, rfl⟩ := he
      have : H.set id (bldR (.ptr id 0 0) v) = H := by
        apply AHeap.ext'
        · rfl
        · intro j
          simp only [AHeap.set]
          split
          · rename_i hj
            rw [hj.1, hg]
          · rfl
      rw [this] at h
      exact ⟨_, .tup [], H, g, rfl, h, Ext.refl _ _, hS, .tup _ _ rfl (fun i v y h1 h2 => by simp at h1)⟩
theorem bstr0_a (hg : H.get id = some (bldR p .nils)) (h : K (.str (B [])) H) : (ACalls Try.prog) 109 [.ptr id 0 0] H K :=
  acalls_calls t109 fun g w vs hS hR => by
    obtain ⟨u, rfl, h1⟩ := reps_one hR
    obtain ⟨b, rfl, hm⟩ := h1.ptr_inv
    obtain ⟨b', cur, lo, hi, hm', hh, hfz, hlen, hcell⟩ := hS.live id _ hg
    rw [show g.m id 0 = some b' from hm'] at hm
    obtain rfl := Option.some.inj hm
    obtain ⟨u1, hu1, hr1⟩ := hcell 1 .nils rfl
    have e1 : u1 = .slice none 0 0 := by cases hr1; rfl
    have c1 : w.cell? ⟨b', 1, none⟩ = some (.slice none 0 0) := by
      simp only [World.cell?, hh]
      rw [← e1]
      exact hu1
    refine (bld_string0 Try.lays169 Try.Builder_Extra_169 b' w c1).mono (fun e w' he => ?_)
    obtain ⟨rfl, rfl⟩ := he
    obtain ⟨hE, hS'⟩ := sim_below hS (Below.drew (Below.refl _ w))
    exact ⟨_, _, H, g, rfl, h, hE, hS', .str _⟩
theorem bstr_a {id2 gen : Nat} {l : List UInt8} (hg : H.get id = some (bldR p (.wr id2 gen 0 l.length 1))) (hg2 : H.get id2 = some (.row 5 gen (l.map byteV))) (h0 : l ≠ []) (hl : l.length ≤ 9223372036854775807) (h : K (.str (B l)) (H.kill id2)) : (ACalls Try.prog) 109 [.ptr id 0 0] H K :=
  acalls_calls t109 fun g w vs hS hR => by
    obtain ⟨u, rfl, h1⟩ := reps_one hR
    obtain ⟨b, rfl, hm⟩ := h1.ptr_inv
    obtain ⟨b', cur, lo, hi, hm', hh, hfz, hlen, hcell⟩ := hS.live id _ hg
    rw [show g.m id 0 = some b' from hm'] at hm
    obtain rfl := Option.some.inj hm
    obtain ⟨u1, hu1, hr1⟩ := hcell 1 _ rfl
    obtain ⟨b2, c, e, n, e1, hm2, hsh, hfit, hlc, hcm⟩ := hr1.wr_inv
    obtain ⟨b3, cur2, lo2, hi2, hm3, hh2, hfz2, hlen2, hcell2⟩ := hS.live id2 _ hg2
    rw [show g.m id2 gen = some b3 from hm3] at hm2
    obtain rfl := Option.some.inj hm2
    have hsh2 : w.shape? b3 = some (5, cur2.size) := by simp only [World.shape?, hh2]
    rw [hsh2] at hsh
    cases hsh
    rw [List.length_map] at hlen2
    have c1 : w.cell? ⟨b', 1, none⟩ = some (.slice (some ⟨b3, 0, none⟩) l.length c) := by
      simp only [World.cell?, hh]
      rw [← e1]
      exact hu1
    refine (bld_string Try.lays169 Try.Builder_Extra_169 b' b3 cur2.size c l w c1 hsh2 hlen2 hlc hl h0 (fun j x hx => ?_)).mono (fun e w' he => ?_)
    · obtain ⟨u2, hu2, hr2⟩ := hcell2 j (byteV x) (by rw [List.getElem?_map, hx]; rfl)
      have e2 : u2 = .int .u8 (x.toNat : Int) := int_inv hr2
      have ha : ((⟨b3, 0, none⟩ : Addr).add j) = ⟨b3, j, none⟩ := by
        unfold Addr.add
        by_cases hj : j = 0
        · subst hj; rfl
        · simp [hj]
      rw [ha]
      simp only [World.cell?, hh2]
      rw [← e2]
      exact hu2
    · obtain ⟨rfl, rfl⟩ := he
      have hne : l.length ≠ 0 := by simpa using h0
      obtain ⟨hE0, hS0⟩ := sim_below hS (Below.drew (Below.refl _ w))
      have hfr : ∃ f', (w.drew.freeze ⟨b3, 0, none⟩ l.length).heap[b3]? = some (.cells cur2 5 f') := by
        unfold World.freeze
        rw [if_neg hne]
        simp only [Array.getElem?_modify, if_true]
        rw [show w.drew.heap[b3]? = _ from hh2]
        exact ⟨_, rfl⟩
      obtain ⟨f', hf'⟩ := hfr
      obtain ⟨hE1, hS1⟩ := sim_freeze (w' := w.drew.freeze ⟨b3, 0, none⟩ l.length) (f := (lo2, hi2)) (f' := f') hS0 hg2 hm3 hh2 hf' (fun k hk => by
        unfold World.freeze
        rw [if_neg hne]
        simp only [Array.getElem?_modify]
        rw [if_neg (Ne.symm hk)]) (by
        unfold World.freeze
        rw [if_neg hne]
        simp) (by unfold World.freeze; rw [if_neg hne]) (by unfold World.freeze; rw [if_neg hne]) (by unfold World.freeze; rw [if_neg hne])
      exact ⟨_, _, H.kill id2, g, rfl, h, hE0.trans hE1, hS1, .str _⟩
end
end Ytfilheaaacffmaa.AL
end Go.Proofs

