/- Pairs told: where a key stands. -/
import Derived.Test.YtfilheaaacffmaaQKvTextsALKv2
import Derived.Test.YtfilheaaacffmaaQKvTextsALIns3
set_option linter.unusedSimpArgs false
set_option linter.unusedVariables false
set_option maxRecDepth 100000
set_option maxHeartbeats 16000000
namespace Go.Proofs.Ytfilheaaacffmaa.AL
open Go Go.Proofs
attribute [local go_sem] go_seq go_skip go_region go_regionN go_fregion rgF_some go_cond go_block go_exit go_ret nxt_nil nxt_code nxt_blk nxt_cut leave_nil leave_code leave_cut leave_blk rtn_nil rtn_code rtn_blk rtn_cut cnd_t cnd_f rgn_nil rgY_some rgY_none rgH_some rgP_some retTo_is rgV_func grd_und grd_tt grd_ff grd_tf grd_ft rgn_q rgn_alloc rgn_box rgn_store rgn_lit rgn_litw litCells_nil litCells_cons rgn_app rgn_copy rgn_mk rgn_s2b rgn_call rgn_callv rgn_stop rgn_slice3 aslice3 rgn_slice3l aslice3l rgn_appz rgn_clear rgn_range rgn_next arange acap rgn_put rgn_mkmap rgn_lookup rgn_mapup alookup_nilm alookup_map amapup_map afound_ok afound_no rgn_c rgn_cv qclV_func aloadr rgn_guard post_ret post_normal retY_some ares aresL ares1 AX.ev aput List.getD_cons_zero List.getD_cons_succ List.set_cons_zero List.set_cons_succ List.map_cons List.map_nil aq abin aint astr abeq aconv asame aextract alenS alenL_nils alenL_emp alenL_imm alenL_wr alenL_wc aun apart aload afieldAddr afield aidxSl_wr aidxSl_wc aidxSl_imm aidxPt aidxStr aidxArr abound asliceStr asliceSl asliceArr abest anonil afill astore acells_nils acells_emp acells_imm acells_wr acells_wc acells_str acopy litAll amk as2b anil nilOf aseq aeqs aeqv fits fit1 hp_next hp_push hp_get hp_set List.length_cons List.length_nil List.getElem?_cons_zero List.getElem?_cons_succ List.cons_append List.nil_append List.append_nil List.take_succ_cons List.take_zero List.drop_succ_cons List.drop_zero List.all_cons List.all_nil Option.map_some Option.some.injEq Bool.and_true Bool.true_and Bool.false_eq_true if_true if_false ite_true ite_false Bool.and_self true_and and_true and_self Nat.zero_add Nat.le_refl Int.toNat_natCast beq_self_eq_true eq_self tops_zero tops_succ Int.natCast_nonneg List.take_nil List.drop_nil Option.map_none flat_bool one_bool cells_bool flat_int one_int cells_int flat_str one_str cells_str flat_nilp one_nilp cells_nilp flat_ptr one_ptr cells_ptr flat_nils one_nils cells_nils flat_imm one_imm cells_imm flat_wr one_wr cells_wr flat_wc one_wc cells_wc flat_func one_func cells_func flat_nilf one_nilf cells_nilf flat_map one_map cells_map flat_nilm one_nilm cells_nilm flat_iface one_iface cells_iface flat_nili one_nili cells_nili flat_rd one_rd cells_rd flat_emp one_emp cells_emp flat_byteV one_byteV cells_byteV flat_agg cells_agg one_agg B_size B_list B_ext B_toList B_app List.take_length Int.le_refl
def less (a b : List UInt8) : Bool := Op.bytesLess a b
theorem less_irr : ∀ a : List UInt8, less a a = false
  | [] => rfl
  | x :: a => by
    have ih := less_irr a
    unfold less at ih ⊢
    simp [Op.bytesLess, ih]
theorem less_trans : ∀ {a b c : List UInt8}, less a b = true → less b c = true → less a c = true
  | [], _, [], _, h2 => by
    unfold less at h2
    cases ‹List UInt8› <;> simp [Op.bytesLess] at h2
  | [], _, _ :: _, _, _ => rfl
  | _ :: _, [], _, h1, _ => by
    unfold less at h1
    simp [Op.bytesLess] at h1
  | _ :: _, _ :: _, [], _, h2 => by
    unfold less at h2
    simp [Op.bytesLess] at h2
  | x :: a, y :: b, z :: c, h1, h2 => by
    have ih := @less_trans a b c
    unfold less at *
    simp only [Op.bytesLess, Bool.or_eq_true, Bool.and_eq_true, decide_eq_true_eq, beq_iff_eq] at h1 h2 ⊢
    rcases h1 with h1 | ⟨rfl, h1⟩
    · rcases h2 with h2 | ⟨rfl, h2⟩
      · exact .inl (UInt8.lt_trans h1 h2)
      · exact .inl h1
    · rcases h2 with h2 | ⟨rfl, h2⟩
      · exact .inl h2
      · exact .inr ⟨rfl, ih h1 h2⟩
theorem cmp_lt : ∀ a b : List UInt8, decide (Lib.compareBytes a b < 0) = less a b ∧ decide (Lib.compareBytes a b = 0) = decide (a = b)
  | [], [] => ⟨rfl, rfl⟩
  | [], _ :: _ => ⟨rfl, by simp [Lib.compareBytes]⟩
  | _ :: _, [] => ⟨rfl, by simp [Lib.compareBytes]⟩
  | x :: a, y :: b => by
    have ih := cmp_lt a b
    unfold less at *
    simp only [Lib.compareBytes, Op.bytesLess]
    by_cases h1 : x < y
    · have hne : ¬ x = y := fun e => by rw [e] at h1; exact UInt8.lt_irrefl _ h1
      simp [h1, hne]
    · by_cases h2 : y < x
      · have hne : ¬ x = y := fun e => by rw [e] at h2; exact UInt8.lt_irrefl _ h2
        simp [h1, h2, hne]
      · have he : x = y := UInt8.le_antisymm (UInt8.not_lt.1 h2) (UInt8.not_lt.1 h1)
        subst he
        simp only [UInt8.lt_irrefl, if_false, decide_false, Bool.false_or, beq_self_eq_true, Bool.true_and]
        refine ⟨ih.1, ?_⟩
        rw [ih.2]
        simp
section
variable {H : AHeap} {K : AV → AHeap → Prop}
theorem cmpstr_a {a b : List UInt8} (h : K (.int .i64 (Lib.compareBytes a b)) H) : (ACalls Try.prog) 188 [.str (B a), .str (B b)] H K :=
  acalls_extq h fun g w vs hS hR => by
    obtain ⟨u, v, rfl, h1, h2⟩ := reps_two hR
    have e1 := str_inv h1
    have e2 := str_inv h2
    subst e1
    subst e2
    refine ⟨.int .i64 (Lib.compareBytes a b), ?_, .int _ _⟩
    rw [run_callFunc_extern Try.func188 (by kernel_rfl) (by kernel_rfl) (by kernel_rfl) (e := Extern.BytealgCompare.compare) (by kernel_rfl), Lib.run_compareString]
    simp [B_list, Result.andThen]
theorem compareS_a {a b : List UInt8} (h : K (.int .i64 (Lib.compareBytes a b)) H) : (ACalls Try.prog) 178 [.str (B a), .str (B b)] H K := by
  refine acalls_go mo t178 (fun hs hu => ?_)
  simp only [c178, go_sem, Nat.reduceLeDiff, Nat.reduceAdd, Nat.reduceSub, Nat.reduceMul, Nat.reduceLT, Int.reduceLT, Int.reduceLE, Int.reduceAdd, Int.reduceSub, Int.reduceMul, Int.reduceToNat, Int.reduceNeg, Int.reduceEq, Nat.reducePow, Int.reducePow, Nat.reduceEqDiff, decide_true, decide_false, reduceIte, reduceCtorEq, Int.reduceBEq, Int.reduceBNe, bne_self_eq_false, Int.cast_ofNat_Int, Bool.not_true, Bool.not_false, IntKind.bits]
  refine cmpstr_a ?_
  simp (maxSteps := 4000000) (disch := (first | omega | (simp only [set_next, List.length_append, List.length_cons, List.length_nil, List.length_take, List.length_drop, List.length_map, List.length_set, List.length_replicate]; omega) | (simp only [set_next, ne_eq, reduceCtorEq, not_false_eq_true]))) only [go_sem, Nat.reduceLeDiff, Nat.reduceAdd, Nat.reduceSub, Nat.reduceMul, Nat.reduceLT, Int.reduceLT, Int.reduceLE, Int.reduceAdd, Int.reduceSub, Int.reduceMul, Int.reduceToNat, Int.reduceNeg, Int.reduceEq, Nat.reducePow, Int.reducePow, Nat.reduceEqDiff, decide_true, decide_false, reduceIte, reduceCtorEq, Int.reduceBEq, Int.reduceBNe, bne_self_eq_false, Int.cast_ofNat_Int, Bool.not_true, Bool.not_false, IntKind.bits, w_nat, w_lit, w_add, w_addl, w_ladd, w_sub, w_subl, w_lsub, w_mul, w_mull, w_lmul, t_div, t_divl, t_mod, t_modl, i_lt, i_ltl, i_llt, i_le, i_lel, i_lle, i_eq, i_eql, i_leq, Nat.zero_le, d_beq, d_bne, d_bytes, byte_at, Int.toNat_natCast, toNat_lit, decide_eq_true, decide_eq_false, if_pos, if_neg, slA_len, slA_idx, slA_cells, flat_slA, one_slA, cells_slA, map_mid, strV_is, hp_get1, hp_get2, hp_get3, hp_set1, hp_set2, hp_set3, hp_old, hp_sold, set_got, set_set, set_next, set_other, bytesL, bytes_all, List.length_map, aapp_nils, aapp_wr, List.flatMap_cons, List.flatMap_nil, Nat.mul_one]
  exact aret_plain hs (by simp only [u_top, u_bool, u_int, u_str, u_nilp, u_nils, u_nilf, u_nilm, u_nili, u_emp, u_byteV, u_ptr, u_wr, u_wc, u_agg, u_tup, u_rd, u_imm, u_func, u_nil, u_cons, u_app, uc_nil, uc_cons, uc_app, u_bytes, uc_bytes, u_ints, uc_ints, cells_bool, cells_int, cells_str, cells_agg, cells_ptr, cells_nils, cells_imm, cells_wr, cells_wc, cells_nilp, cells_nilf, cells_nilm, cells_rd, cells_emp, cells_byteV, cells_func, and_self, and_true, true_and, u_slA, uc_strs, cells_slA, strV_is]) (h)
theorem Compare_a {a b : List UInt8} (h : K (.int .i64 (Lib.compareBytes a b)) H) : (ACalls Try.prog) 154 [.str (B a), .str (B b)] H K := by
  refine acalls_go mo t154 (fun hs hu => ?_)
  simp only [c154, go_sem, Nat.reduceLeDiff, Nat.reduceAdd, Nat.reduceSub, Nat.reduceMul, Nat.reduceLT, Int.reduceLT, Int.reduceLE, Int.reduceAdd, Int.reduceSub, Int.reduceMul, Int.reduceToNat, Int.reduceNeg, Int.reduceEq, Nat.reducePow, Int.reducePow, Nat.reduceEqDiff, decide_true, decide_false, reduceIte, reduceCtorEq, Int.reduceBEq, Int.reduceBNe, bne_self_eq_false, Int.cast_ofNat_Int, Bool.not_true, Bool.not_false, IntKind.bits]
  refine compareS_a ?_
  simp (maxSteps := 4000000) (disch := (first | omega | (simp only [set_next, List.length_append, List.length_cons, List.length_nil, List.length_take, List.length_drop, List.length_map, List.length_set, List.length_replicate]; omega) | (simp only [set_next, ne_eq, reduceCtorEq, not_false_eq_true]))) only [go_sem, Nat.reduceLeDiff, Nat.reduceAdd, Nat.reduceSub, Nat.reduceMul, Nat.reduceLT, Int.reduceLT, Int.reduceLE, Int.reduceAdd, Int.reduceSub, Int.reduceMul, Int.reduceToNat, Int.reduceNeg, Int.reduceEq, Nat.reducePow, Int.reducePow, Nat.reduceEqDiff, decide_true, decide_false, reduceIte, reduceCtorEq, Int.reduceBEq, Int.reduceBNe, bne_self_eq_false, Int.cast_ofNat_Int, Bool.not_true, Bool.not_false, IntKind.bits, w_nat, w_lit, w_add, w_addl, w_ladd, w_sub, w_subl, w_lsub, w_mul, w_mull, w_lmul, t_div, t_divl, t_mod, t_modl, i_lt, i_ltl, i_llt, i_le, i_lel, i_lle, i_eq, i_eql, i_leq, Nat.zero_le, d_beq, d_bne, d_bytes, byte_at, Int.toNat_natCast, toNat_lit, decide_eq_true, decide_eq_false, if_pos, if_neg, slA_len, slA_idx, slA_cells, flat_slA, one_slA, cells_slA, map_mid, strV_is, hp_get1, hp_get2, hp_get3, hp_set1, hp_set2, hp_set3, hp_old, hp_sold, set_got, set_set, set_next, set_other, bytesL, bytes_all, List.length_map, aapp_nils, aapp_wr, List.flatMap_cons, List.flatMap_nil, Nat.mul_one]
  exact aret_plain hs (by simp only [u_top, u_bool, u_int, u_str, u_nilp, u_nils, u_nilf, u_nilm, u_nili, u_emp, u_byteV, u_ptr, u_wr, u_wc, u_agg, u_tup, u_rd, u_imm, u_func, u_nil, u_cons, u_app, uc_nil, uc_cons, uc_app, u_bytes, uc_bytes, u_ints, uc_ints, cells_bool, cells_int, cells_str, cells_agg, cells_ptr, cells_nils, cells_imm, cells_wr, cells_wc, cells_nilp, cells_nilf, cells_nilm, cells_rd, cells_emp, cells_byteV, cells_func, and_self, and_true, true_and, u_slA, uc_strs, cells_slA, strV_is]) (h)
theorem find1_a {p : List UInt8 × List UInt8} {k : List UInt8} (h : K (.int .i64 (Lib.compareBytes p.1 k)) H) : (ACalls Try.prog) 153 [prV p, .str (B k)] H K := by
  refine acalls_go mo t153 (fun hs hu => ?_)
  simp only [c153, prV_is, go_sem, Nat.reduceLeDiff, Nat.reduceAdd, Nat.reduceSub, Nat.reduceMul, Nat.reduceLT, Int.reduceLT, Int.reduceLE, Int.reduceAdd, Int.reduceSub, Int.reduceMul, Int.reduceToNat, Int.reduceNeg, Int.reduceEq, Nat.reducePow, Int.reducePow, Nat.reduceEqDiff, decide_true, decide_false, reduceIte, reduceCtorEq, Int.reduceBEq, Int.reduceBNe, bne_self_eq_false, Int.cast_ofNat_Int, Bool.not_true, Bool.not_false, IntKind.bits]
  refine Compare_a ?_
  simp (maxSteps := 4000000) (disch := (first | omega | (simp only [set_next, List.length_append, List.length_cons, List.length_nil, List.length_take, List.length_drop, List.length_map, List.length_set, List.length_replicate]; omega) | (simp only [set_next, ne_eq, reduceCtorEq, not_false_eq_true]))) only [go_sem, Nat.reduceLeDiff, Nat.reduceAdd, Nat.reduceSub, Nat.reduceMul, Nat.reduceLT, Int.reduceLT, Int.reduceLE, Int.reduceAdd, Int.reduceSub, Int.reduceMul, Int.reduceToNat, Int.reduceNeg, Int.reduceEq, Nat.reducePow, Int.reducePow, Nat.reduceEqDiff, decide_true, decide_false, reduceIte, reduceCtorEq, Int.reduceBEq, Int.reduceBNe, bne_self_eq_false, Int.cast_ofNat_Int, Bool.not_true, Bool.not_false, IntKind.bits, w_nat, w_lit, w_add, w_addl, w_ladd, w_sub, w_subl, w_lsub, w_mul, w_mull, w_lmul, t_div, t_divl, t_mod, t_modl, i_lt, i_ltl, i_llt, i_le, i_lel, i_lle, i_eq, i_eql, i_leq, Nat.zero_le, d_beq, d_bne, d_bytes, byte_at, Int.toNat_natCast, toNat_lit, decide_eq_true, decide_eq_false, if_pos, if_neg, slA_len, slA_idx, slA_cells, flat_slA, one_slA, cells_slA, map_mid, strV_is, hp_get1, hp_get2, hp_get3, hp_set1, hp_set2, hp_set3, hp_old, hp_sold, set_got, set_set, set_next, set_other, bytesL, bytes_all, List.length_map, aapp_nils, aapp_wr, List.flatMap_cons, List.flatMap_nil, Nat.mul_one]
  exact aret_plain hs (by simp only [u_top, u_bool, u_int, u_str, u_nilp, u_nils, u_nilf, u_nilm, u_nili, u_emp, u_byteV, u_ptr, u_wr, u_wc, u_agg, u_tup, u_rd, u_imm, u_func, u_nil, u_cons, u_app, uc_nil, uc_cons, uc_app, u_bytes, uc_bytes, u_ints, uc_ints, cells_bool, cells_int, cells_str, cells_agg, cells_ptr, cells_nils, cells_imm, cells_wr, cells_wc, cells_nilp, cells_nilf, cells_nilm, cells_rd, cells_emp, cells_byteV, cells_func, and_self, and_true, true_and, u_slA, uc_strs, cells_slA, strV_is]) (h)
end
end Go.Proofs.Ytfilheaaacffmaa.AL

