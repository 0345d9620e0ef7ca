/- Builders told: what is written to them, and what they hold. -/
import Derived.Test.YtfilheaaacffmaaQKvTextsALBld2
import Derived.Test.YtfilheaaacffmaaQKvTextsALGrew
set_option linter.unusedVariables false
set_option linter.unusedSimpArgs false
set_option maxRecDepth 100000
set_option maxHeartbeats 16000000
namespace Go.Proofs.Ytfilheaaacffmaa.AL
open Go Go.Proofs
attribute [local go_sem] go_seq go_skip go_region go_regionN go_fregion rgF_some go_cond go_block go_exit go_ret nxt_nil nxt_code nxt_blk nxt_cut leave_nil leave_code leave_cut leave_blk rtn_nil rtn_code rtn_blk rtn_cut cnd_t cnd_f rgn_nil rgY_some rgY_none rgH_some rgP_some retTo_is rgV_func grd_und grd_tt grd_ff grd_tf grd_ft rgn_q rgn_alloc rgn_box rgn_store rgn_lit rgn_litw litCells_nil litCells_cons rgn_app rgn_copy rgn_mk rgn_s2b rgn_call rgn_callv rgn_stop rgn_slice3 aslice3 rgn_slice3l aslice3l rgn_appz rgn_clear rgn_range rgn_next arange acap rgn_put rgn_mkmap rgn_lookup rgn_mapup alookup_nilm alookup_map amapup_map afound_ok afound_no rgn_c rgn_cv qclV_func aloadr rgn_guard post_ret post_normal retY_some ares aresL ares1 AX.ev aput List.getD_cons_zero List.getD_cons_succ List.set_cons_zero List.set_cons_succ List.map_cons List.map_nil aq abin aint astr abeq aconv asame aextract alenS alenL_nils alenL_emp alenL_imm alenL_wr alenL_wc aun apart aload afieldAddr afield aidxSl_wr aidxSl_wc aidxSl_imm aidxPt aidxStr aidxArr abound asliceStr asliceSl asliceArr abest anonil afill astore acells_nils acells_emp acells_imm acells_wr acells_wc acells_str acopy litAll amk as2b anil nilOf aseq aeqs aeqv fits fit1 hp_next hp_push hp_get hp_set List.length_cons List.length_nil List.getElem?_cons_zero List.getElem?_cons_succ List.cons_append List.nil_append List.append_nil List.take_succ_cons List.take_zero List.drop_succ_cons List.drop_zero List.all_cons List.all_nil Option.map_some Option.some.injEq Bool.and_true Bool.true_and Bool.false_eq_true if_true if_false ite_true ite_false Bool.and_self true_and and_true and_self Nat.zero_add Nat.le_refl Int.toNat_natCast beq_self_eq_true eq_self tops_zero tops_succ Int.natCast_nonneg List.take_nil List.drop_nil Option.map_none flat_bool one_bool cells_bool flat_int one_int cells_int flat_str one_str cells_str flat_nilp one_nilp cells_nilp flat_ptr one_ptr cells_ptr flat_nils one_nils cells_nils flat_imm one_imm cells_imm flat_wr one_wr cells_wr flat_wc one_wc cells_wc flat_func one_func cells_func flat_nilf one_nilf cells_nilf flat_map one_map cells_map flat_nilm one_nilm cells_nilm flat_iface one_iface cells_iface flat_nili one_nili cells_nili flat_rd one_rd cells_rd flat_emp one_emp cells_emp flat_byteV one_byteV cells_byteV flat_agg cells_agg one_agg B_size B_list B_ext B_toList B_app List.take_length Int.le_refl
/-- A builder at row id, with bytes l; its bytes' row is one from n0 on. -/
def BldAt (n0 : Nat) (G : AHeap) (id : Nat) (l : List UInt8) : Prop := ∃ p v, G.get id = some (bldR p v) ∧ (p = .nilp ∨ p = .ptr id 0 0) ∧ SlAt n0 G 5 1 v (l.map byteV) ∧ (v = .nils ∨ l ≠ [])
theorem bld_ne : 145 ≠ 5 := by decide
theorem aapp_str (e b : Nat) (H : AHeap) (v : AV) (s : List UInt8) : aapp e 1 b H v (.str (B s)) = aapp e 1 b H v (.imm 1 (s.map byteV)) := by
  have h : acells H 1 (.str (B s)) = acells H 1 (.imm 1 (s.map byteV)) := by
    rw [acells_str, acells_imm, if_pos rfl, if_pos rfl, B_size, B_list, List.length_map, bytes_flat]
    rfl
  unfold aapp
  rw [h]
theorem slat_one {n0 e sz : Nat} {G : AHeap} {v : AV} {xs : List AV} (h : SlAt n0 G e sz v xs) : v.flat = true ∧ v.cells = [v] ∧ v.one = true := by
  rcases h with ⟨rfl, _⟩ | ⟨_, _, rfl, _⟩ <;> exact ⟨rfl, rfl, rfl⟩
theorem byte_all (l : List UInt8) : ∀ x ∈ l.map byteV, x.cells.length = 1 := fun x hx => by obtain ⟨n, _, rfl⟩ := List.mem_map.1 hx; rfl
section
variable {H : AHeap} {K : AV → AHeap → Prop} {id n0 : Nat} {l s : List UInt8}
theorem bwrite_a (hB : BldAt n0 H id l) (hn : n0 ≤ H.next) (hlen : l.length + s.length ≤ 140737488355328)
    (h : ∀ G, BldAt n0 G id (l ++ s) → H.next ≤ G.next → (∀ i, i < n0 → i ≠ id → G.get i = H.get i) → (∀ i o, H.get i = some o → i ≠ id → (∀ gen cs, o ≠ .row 5 gen cs) → G.get i = some o) → K (.tup [.int .i64 (s.length : Int), .nili]) G) : (ACalls Try.prog) 107 [.ptr id 0 0, .str (B s)] H K := by
  refine acalls_go mo t107 (fun hs hu => ?_)
  obtain ⟨p, v, hg, hpp, hv, hvn⟩ := hB
  have hid := H.lt hg
  have hg1 : (H.set id (bldR (.ptr id 0 0) v)).get id = some (bldR (.ptr id 0 0) v) := set_got hid
  have hv1 : SlAt n0 (H.set id (bldR (.ptr id 0 0) v)) 5 1 v (l.map byteV) := by
    rcases hv with q | ⟨i, gen, q1, q2, q3⟩
    · exact .inl q
    · refine .inr ⟨i, gen, q1, q2, ?_⟩
      rw [set_get_ne _ _ _ _ (fun e => by rw [e, hg] at q3; cases q3)]
      exact q3
  have hw1 : (H.set id (bldR (.ptr id 0 0) v)).within (H.set id (bldR (.ptr id 0 0) v)).next := by
    have hvu := slat_under hv
    exact within_set hs (by rw [u_cons, u_cons, u_ptr, u_nil]; exact ⟨hid, hvu, trivial⟩)
  obtain ⟨v2, G2, hE, hv2, hgr, hw2⟩ := slat_app2 (b := 1) (ys := s.map byteV) hv1 (by rw [set_next]; exact hn) (byte_all l) (by rw [bytes_flat]; exact bytes_all s) (by rw [List.length_map, List.length_map]; omega) hw1 (fun n => by rw [uc_bytes]; trivial) (fun n => by rw [uc_bytes]; trivial)
  rw [← aapp_str] at hE
  have hne : ∀ gen off len sz, v ≠ .wr id gen off len sz := slat_ne2 hv1 hg1 bld_ne
  have hg2 := hgr.other id _ hg1 hne
  have hid2 := G2.lt hg2
  have hnx : H.next ≤ G2.next := hgr.next
  simp only [c107, go_sem, Nat.reduceLeDiff, Nat.reduceAdd, Nat.reduceSub, Nat.reduceMul, Nat.reduceLT, Int.reduceLT, Int.reduceLE, Int.reduceAdd, Int.reduceSub, Int.reduceMul, Int.reduceToNat, Int.reduceNeg, Int.reduceEq, Nat.reducePow, Int.reducePow, Nat.reduceEqDiff, decide_true, decide_false, reduceIte, reduceCtorEq, Int.reduceBEq, Int.reduceBNe, bne_self_eq_false, Int.cast_ofNat_Int, Bool.not_true, Bool.not_false, IntKind.bits]
  refine bcheck_a (p := p) (v := v) ((hp_old hid).trans hg) hpp ?_
  simp only [retTo_is, go_sem, Nat.reduceLeDiff, Nat.reduceAdd, Nat.reduceSub, Nat.reduceMul, Nat.reduceLT, Int.reduceLT, Int.reduceLE, Int.reduceAdd, Int.reduceSub, Int.reduceMul, Int.reduceToNat, Int.reduceNeg, Int.reduceEq, Nat.reducePow, Int.reducePow, Nat.reduceEqDiff, decide_true, decide_false, reduceIte, reduceCtorEq, Int.reduceBEq, Int.reduceBNe, bne_self_eq_false, Int.cast_ofNat_Int, Bool.not_true, Bool.not_false, IntKind.bits]
  rw [hp_sold hid]
  have hE2 : aapp 5 1 1 (hp (H.set id (bldR (.ptr id 0 0) v)) []) v (.str (B s)) = some (v2, hp G2 []) := by rw [hp_nil]; exact hE
  have hg3 := hg2
  simp only [bldR_is] at hE2 hg3 ⊢
  obtain ⟨o1, o2, o3⟩ := slat_one hv2
  simp (maxSteps := 4000000) (disch := (first | omega | (simp only [set_next, List.length_append, List.length_cons, List.length_nil, List.length_take, List.length_drop, List.length_map, List.length_set, List.length_replicate]; omega) | (simp only [set_next, ne_eq, reduceCtorEq, not_false_eq_true]))) only [hE2, hg3, o1, o2, o3, go_sem, Nat.reduceLeDiff, Nat.reduceAdd, Nat.reduceSub, Nat.reduceMul, Nat.reduceLT, Int.reduceLT, Int.reduceLE, Int.reduceAdd, Int.reduceSub, Int.reduceMul, Int.reduceToNat, Int.reduceNeg, Int.reduceEq, Nat.reducePow, Int.reducePow, Nat.reduceEqDiff, decide_true, decide_false, reduceIte, reduceCtorEq, Int.reduceBEq, Int.reduceBNe, bne_self_eq_false, Int.cast_ofNat_Int, Bool.not_true, Bool.not_false, IntKind.bits, w_nat, w_lit, w_add, w_addl, w_ladd, w_sub, w_subl, w_lsub, w_mul, w_mull, w_lmul, t_div, t_divl, t_mod, t_modl, i_lt, i_ltl, i_llt, i_le, i_lel, i_lle, i_eq, i_eql, i_leq, Nat.zero_le, d_beq, d_bne, d_bytes, byte_at, Int.toNat_natCast, toNat_lit, decide_eq_true, decide_eq_false, if_pos, if_neg, slA_len, slA_idx, slA_cells, flat_slA, one_slA, cells_slA, map_mid, strV_is, hp_get1, hp_get2, hp_get3, hp_set1, hp_set2, hp_set3, hp_old, hp_sold, set_got, set_set, set_next, set_other, bytesL, bytes_all, List.length_map, aapp_nils, aapp_wr, List.flatMap_cons, List.flatMap_nil, Nat.mul_one]
  rw [hp_nil]
  refine aret_full (H := H) (by rw [set_next]; exact hnx) ?_ (by simp only [u_top, u_bool, u_int, u_str, u_nilp, u_nils, u_nilf, u_nilm, u_nili, u_emp, u_byteV, u_ptr, u_wr, u_wc, u_agg, u_tup, u_rd, u_imm, u_func, u_nil, u_cons, u_app, uc_nil, uc_cons, uc_app, u_bytes, uc_bytes, u_ints, uc_ints, cells_bool, cells_int, cells_str, cells_agg, cells_ptr, cells_nils, cells_imm, cells_wr, cells_wc, cells_nilp, cells_nilf, cells_nilm, cells_rd, cells_emp, cells_byteV, cells_func, and_self, and_true, true_and, u_slA, uc_strs, cells_slA, strV_is]) (h _ ⟨_, v2, set_got hid2, .inr rfl, ?_, ?_⟩ (by rw [set_next]; exact hnx) (fun i hi hne2 => ?_) (fun i o ho hne2 ht => ?_))
  · have hvu2 := slat_under hv2
    exact within_set hw2 (by rw [u_cons, u_cons, u_ptr, u_nil]; exact ⟨hid2, hvu2, trivial⟩)
  · rw [List.map_append]
    rcases hv2 with q | ⟨i, gen, q1, q2, q3⟩
    · exact .inl q
    · refine .inr ⟨i, gen, q1, q2, ?_⟩
      rw [set_get_ne _ _ _ _ (fun e => by rw [e, hg2] at q3; cases q3)]
      exact q3
  · by_cases hls : l ++ s = []
    · left
      obtain ⟨hl0, hs0⟩ := List.append_eq_nil_iff.1 hls
      have hv0 : v = .nils := hvn.resolve_right (fun q => q hl0)
      rw [hv0, aapp_str, hs0, aapp_nils, List.map_nil, acells_imm, if_pos rfl] at hE
      simp only [List.length_nil, List.flatMap_nil, List.all_nil, if_true] at hE
      exact ((Prod.mk.inj (Option.some.inj hE)).1).symm
    · exact .inr hls
  · rw [set_get_ne _ _ _ _ hne2, hgr.old i hi, set_get_ne _ _ _ _ hne2]
  · rw [set_get_ne _ _ _ _ hne2]
    refine hgr.other i o (by rw [set_get_ne _ _ _ _ hne2]; exact ho) (fun gen off len sz e => ?_)
    rcases hv with q | ⟨i2, gen2, q1, q2, q3⟩
    · rw [q.1] at e
      cases e
    · rw [q1] at e
      cases e
      rw [ho] at q3
      cases q3
      exact ht _ _ rfl
theorem bstring_a (hB : BldAt n0 H id l) (hl : l.length ≤ 9223372036854775807) (h : ∀ G, G.next = H.next → (∀ i, i < n0 → G.get i = H.get i) → (∀ i o, H.get i = some o → (∀ gen cs, o ≠ .row 5 gen cs) → G.get i = some o) → K (.str (B l)) G) : (ACalls Try.prog) 109 [.ptr id 0 0] H K := by
  obtain ⟨p, v, hg, hpp, hv, hvn⟩ := hB
  rcases hv with ⟨rfl, q⟩ | ⟨i, gen, q1, q2, q3⟩
  · have : l = [] := List.map_eq_nil_iff.1 q
    subst this
    exact bstr0_a hg (h H rfl (fun _ _ => rfl) (fun _ _ h _ => h))
  · rw [bytes_flat] at q3
    rw [List.length_map] at q1
    by_cases h0 : l = []
    · rcases hvn with q | q
      · rw [q1] at q
        cases q
      · exact absurd h0 q
    · rw [q1] at hg
      refine bstr_a hg q3 h0 hl (h _ rfl (fun j hj => kill_get_ne _ _ _ (by omega)) (fun j o ho ht => ?_))
      rw [kill_get_ne _ _ _ (fun e => by rw [e, q3] at ho; exact ht _ _ (Option.some.inj ho).symm)]
      exact ho
theorem blen_a (hB : BldAt n0 H id l) (hs0 : H.within H.next) (h : K (.int .i64 (l.length : Int)) H) : (ACalls Try.prog) 108 [.ptr id 0 0] H K := by
  refine acalls_go mo t108 (fun hs hu => ?_)
  obtain ⟨p, v, hg, hpp, hv, hvn⟩ := hB
  have hvl := slat_len hv
  rw [List.length_map] at hvl
  have hid := H.lt hg
  have hg2 := hg
  simp only [bldR_is] at hg2
  simp only [c108, go_sem, Nat.reduceLeDiff, Nat.reduceAdd, Nat.reduceSub, Nat.reduceMul, Nat.reduceLT, Int.reduceLT, Int.reduceLE, Int.reduceAdd, Int.reduceSub, Int.reduceMul, Int.reduceToNat, Int.reduceNeg, Int.reduceEq, Nat.reducePow, Int.reducePow, Nat.reduceEqDiff, decide_true, decide_false, reduceIte, reduceCtorEq, Int.reduceBEq, Int.reduceBNe, bne_self_eq_false, Int.cast_ofNat_Int, Bool.not_true, Bool.not_false, IntKind.bits]
  simp (maxSteps := 4000000) (disch := (first | omega | (simp only [set_next, List.length_append, List.length_cons, List.length_nil, List.length_take, List.length_drop, List.length_map, List.length_set, List.length_replicate]; omega) | (simp only [set_next, ne_eq, reduceCtorEq, not_false_eq_true]))) only [hg2, hvl, go_sem, Nat.reduceLeDiff, Nat.reduceAdd, Nat.reduceSub, Nat.reduceMul, Nat.reduceLT, Int.reduceLT, Int.reduceLE, Int.reduceAdd, Int.reduceSub, Int.reduceMul, Int.reduceToNat, Int.reduceNeg, Int.reduceEq, Nat.reducePow, Int.reducePow, Nat.reduceEqDiff, decide_true, decide_false, reduceIte, reduceCtorEq, Int.reduceBEq, Int.reduceBNe, bne_self_eq_false, Int.cast_ofNat_Int, Bool.not_true, Bool.not_false, IntKind.bits, w_nat, w_lit, w_add, w_addl, w_ladd, w_sub, w_subl, w_lsub, w_mul, w_mull, w_lmul, t_div, t_divl, t_mod, t_modl, i_lt, i_ltl, i_llt, i_le, i_lel, i_lle, i_eq, i_eql, i_leq, Nat.zero_le, d_beq, d_bne, d_bytes, byte_at, Int.toNat_natCast, toNat_lit, decide_eq_true, decide_eq_false, if_pos, if_neg, slA_len, slA_idx, slA_cells, flat_slA, one_slA, cells_slA, map_mid, strV_is, hp_get1, hp_get2, hp_get3, hp_set1, hp_set2, hp_set3, hp_old, hp_sold, set_got, set_set, set_next, set_other, bytesL, bytes_all, List.length_map, aapp_nils, aapp_wr, List.flatMap_cons, List.flatMap_nil, Nat.mul_one]
  exact aret_plain hs (by simp only [u_top, u_bool, u_int, u_str, u_nilp, u_nils, u_nilf, u_nilm, u_nili, u_emp, u_byteV, u_ptr, u_wr, u_wc, u_agg, u_tup, u_rd, u_imm, u_func, u_nil, u_cons, u_app, uc_nil, uc_cons, uc_app, u_bytes, uc_bytes, u_ints, uc_ints, cells_bool, cells_int, cells_str, cells_agg, cells_ptr, cells_nils, cells_imm, cells_wr, cells_wc, cells_nilp, cells_nilf, cells_nilm, cells_rd, cells_emp, cells_byteV, cells_func, and_self, and_true, true_and, u_slA, uc_strs, cells_slA, strV_is]) (h)
end
end Go.Proofs.Ytfilheaaacffmaa.AL

