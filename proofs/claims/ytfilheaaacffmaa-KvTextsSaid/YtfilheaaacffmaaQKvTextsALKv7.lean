/- Pairs told: set. -/
import Derived.Test.YtfilheaaacffmaaQKvTextsALKvP
set_option linter.unusedSimpArgs false
set_option linter.unusedVariables false
set_option maxRecDepth 100000
set_option maxHeartbeats 16000000
namespace Go.Proofs.Ytfilheaaacffmaa.AL
open Go Go.Proofs
attribute [local go_sem] go_seq go_skip go_region go_regionN go_fregion rgF_some go_cond go_block go_exit go_ret nxt_nil nxt_code nxt_blk nxt_cut leave_nil leave_code leave_cut leave_blk rtn_nil rtn_code rtn_blk rtn_cut cnd_t cnd_f rgn_nil rgY_some rgY_none rgH_some rgP_some retTo_is rgV_func grd_und grd_tt grd_ff grd_tf grd_ft rgn_q rgn_alloc rgn_box rgn_store rgn_lit rgn_litw litCells_nil litCells_cons rgn_app rgn_copy rgn_mk rgn_s2b rgn_call rgn_callv rgn_stop rgn_slice3 aslice3 rgn_slice3l aslice3l rgn_appz rgn_clear rgn_range rgn_next arange acap rgn_put rgn_mkmap rgn_lookup rgn_mapup alookup_nilm alookup_map amapup_map afound_ok afound_no rgn_c rgn_cv qclV_func aloadr rgn_guard post_ret post_normal retY_some ares aresL ares1 AX.ev aput List.getD_cons_zero List.getD_cons_succ List.set_cons_zero List.set_cons_succ List.map_cons List.map_nil aq abin aint astr abeq aconv asame aextract alenS alenL_nils alenL_emp alenL_imm alenL_wr alenL_wc aun apart aload afieldAddr afield aidxSl_wr aidxSl_wc aidxSl_imm aidxPt aidxStr aidxArr abound asliceStr asliceSl asliceArr abest anonil afill astore acells_nils acells_emp acells_imm acells_wr acells_wc acells_str acopy litAll amk as2b anil nilOf aseq aeqs aeqv fits fit1 hp_next hp_push hp_get hp_set List.length_cons List.length_nil List.getElem?_cons_zero List.getElem?_cons_succ List.cons_append List.nil_append List.append_nil List.take_succ_cons List.take_zero List.drop_succ_cons List.drop_zero List.all_cons List.all_nil Option.map_some Option.some.injEq Bool.and_true Bool.true_and Bool.false_eq_true if_true if_false ite_true ite_false Bool.and_self true_and and_true and_self Nat.zero_add Nat.le_refl Int.toNat_natCast beq_self_eq_true eq_self tops_zero tops_succ Int.natCast_nonneg List.take_nil List.drop_nil Option.map_none flat_bool one_bool cells_bool flat_int one_int cells_int flat_str one_str cells_str flat_nilp one_nilp cells_nilp flat_ptr one_ptr cells_ptr flat_nils one_nils cells_nils flat_imm one_imm cells_imm flat_wr one_wr cells_wr flat_wc one_wc cells_wc flat_func one_func cells_func flat_nilf one_nilf cells_nilf flat_map one_map cells_map flat_nilm one_nilm cells_nilm flat_iface one_iface cells_iface flat_nili one_nili cells_nili flat_rd one_rd cells_rd flat_emp one_emp cells_emp flat_byteV one_byteV cells_byteV flat_agg cells_agg one_agg B_size B_list B_ext B_toList B_app List.take_length Int.le_refl
def goSet (l : List (List UInt8 × List UInt8)) : List (List UInt8 × List UInt8) → List (List UInt8 × List UInt8) × Int
  | [] => (l, 0)
  | p :: ps => if chkP p = 0 then goSet (putP l p) ps else ([], chkP p)
def setP (l ps : List (List UInt8 × List UInt8)) : List (List UInt8 × List UInt8) × Int := if rightP l = true then goSet l ps else ([], 6)
section
variable {H : AHeap} {K : AV → AHeap → Prop}
theorem kclone_a {k : Nat} {l : List (List UInt8 × List UInt8)} (hn : l.length ≤ 1000000) (h : ∀ v G, SlAt H.next G 94 2 v (l.map prV) → Past H G → G.within G.next → K v G) : (ACalls Try.prog) 117 [slA k 2 (l.map prV)] H K := by
  refine acalls_go mo t117 (fun hs hu => ?_)
  have hrow : ∀ n, n = l.length → ARet H.next K (.wr (H.next + 0) 1 0 n 2) (hp H [.row 94 1 ((l.map prV).flatMap AV.cells)]) := by
    rintro n rfl
    have hw : (hp H [.row 94 1 ((l.map prV).flatMap AV.cells)]).within (hp H [.row 94 1 ((l.map prV).flatMap AV.cells)]).next := within_hp2 hs (fun o ho => by
      rw [List.mem_singleton] at ho
      subst ho
      intro c hc
      obtain ⟨x, hx, hcx⟩ := List.mem_flatMap.1 hc
      exact prs_u _ l x hx c hcx)
    refine aret_full (Nat.le_add_right _ _) hw (.wr _ _ _ _ _ (by show H.next + 0 < H.next + 1; omega)) (h _ _ (.inr ⟨H.next + 0, 1, by rw [List.length_map], Nat.le_refl _, hp_get _ _ 0⟩) (past_hp past_refl _) hw)
  have hal := prs_one l
  have hlen : (l.map prV).length = l.length := List.length_map _
  rcases slA_cases k 2 (l.map prV) with ⟨hk, hx⟩ | ⟨hk, hx⟩ | hk
  · simp only [c117, hk, go_sem, Nat.reduceLeDiff, Nat.reduceAdd, Nat.reduceSub, Nat.reduceMul, Nat.reduceLT, Int.reduceLT, Int.reduceLE, Int.reduceAdd, Int.reduceSub, Int.reduceMul, Int.reduceToNat, Int.reduceNeg, Int.reduceEq, Nat.reducePow, Int.reducePow, Nat.reduceEqDiff, decide_true, decide_false, reduceIte, reduceCtorEq, Int.reduceBEq, Int.reduceBNe, bne_self_eq_false, Int.cast_ofNat_Int, Bool.not_true, Bool.not_false, IntKind.bits]
    have h2 := h .nils H (by rw [hx]; exact slat_nil) past_refl hs
    rw [hp_nil]
    exact aret_full (Nat.le_refl _) hs .nils h2
  · have hl0 : l = [] := by simpa using hx
    subst hl0
    rw [List.map_nil] at hk
    simp only [c117, hk, go_sem, Nat.reduceLeDiff, Nat.reduceAdd, Nat.reduceSub, Nat.reduceMul, Nat.reduceLT, Int.reduceLT, Int.reduceLE, Int.reduceAdd, Int.reduceSub, Int.reduceMul, Int.reduceToNat, Int.reduceNeg, Int.reduceEq, Nat.reducePow, Int.reducePow, Nat.reduceEqDiff, decide_true, decide_false, reduceIte, reduceCtorEq, Int.reduceBEq, Int.reduceBNe, bne_self_eq_false, Int.cast_ofNat_Int, Bool.not_true, Bool.not_false, IntKind.bits]
    simp (maxSteps := 4000000) (disch := (first | omega | (simp only [set_next, List.length_append, List.length_cons, List.length_nil, List.length_take, List.length_drop, List.length_map, List.length_set, List.length_replicate]; omega) | (simp only [set_next, ne_eq, reduceCtorEq, not_false_eq_true]))) only [go_sem, Nat.reduceLeDiff, Nat.reduceAdd, Nat.reduceSub, Nat.reduceMul, Nat.reduceLT, Int.reduceLT, Int.reduceLE, Int.reduceAdd, Int.reduceSub, Int.reduceMul, Int.reduceToNat, Int.reduceNeg, Int.reduceEq, Nat.reducePow, Int.reducePow, Nat.reduceEqDiff, decide_true, decide_false, reduceIte, reduceCtorEq, Int.reduceBEq, Int.reduceBNe, bne_self_eq_false, Int.cast_ofNat_Int, Bool.not_true, Bool.not_false, IntKind.bits, w_nat, w_lit, w_add, w_addl, w_ladd, w_sub, w_subl, w_lsub, w_mul, w_mull, w_lmul, t_div, t_divl, t_mod, t_modl, i_lt, i_ltl, i_llt, i_le, i_lel, i_lle, i_eq, i_eql, i_leq, Nat.zero_le, d_beq, d_bne, d_bytes, byte_at, Int.toNat_natCast, toNat_lit, decide_eq_true, decide_eq_false, if_pos, if_neg, slA_len, slA_idx, slA_cells, flat_slA, one_slA, cells_slA, map_mid, strV_is, hp_get1, hp_get2, hp_get3, hp_set1, hp_set2, hp_set3, hp_old, hp_sold, set_got, set_set, set_next, set_other, bytesL, bytes_all, List.length_map, aapp_nils, aapp_wr, List.flatMap_cons, List.flatMap_nil, Nat.mul_one]
    exact hrow 0 rfl
  · simp only [c117, hk, go_sem, Nat.reduceLeDiff, Nat.reduceAdd, Nat.reduceSub, Nat.reduceMul, Nat.reduceLT, Int.reduceLT, Int.reduceLE, Int.reduceAdd, Int.reduceSub, Int.reduceMul, Int.reduceToNat, Int.reduceNeg, Int.reduceEq, Nat.reducePow, Int.reducePow, Nat.reduceEqDiff, decide_true, decide_false, reduceIte, reduceCtorEq, Int.reduceBEq, Int.reduceBNe, bne_self_eq_false, Int.cast_ofNat_Int, Bool.not_true, Bool.not_false, IntKind.bits]
    simp (maxSteps := 4000000) (disch := (first | omega | (simp only [set_next, List.length_append, List.length_cons, List.length_nil, List.length_take, List.length_drop, List.length_map, List.length_set, List.length_replicate]; omega) | (simp only [set_next, ne_eq, reduceCtorEq, not_false_eq_true]))) only [hal, hlen, go_sem, Nat.reduceLeDiff, Nat.reduceAdd, Nat.reduceSub, Nat.reduceMul, Nat.reduceLT, Int.reduceLT, Int.reduceLE, Int.reduceAdd, Int.reduceSub, Int.reduceMul, Int.reduceToNat, Int.reduceNeg, Int.reduceEq, Nat.reducePow, Int.reducePow, Nat.reduceEqDiff, decide_true, decide_false, reduceIte, reduceCtorEq, Int.reduceBEq, Int.reduceBNe, bne_self_eq_false, Int.cast_ofNat_Int, Bool.not_true, Bool.not_false, IntKind.bits, w_nat, w_lit, w_add, w_addl, w_ladd, w_sub, w_subl, w_lsub, w_mul, w_mull, w_lmul, t_div, t_divl, t_mod, t_modl, i_lt, i_ltl, i_llt, i_le, i_lel, i_lle, i_eq, i_eql, i_leq, Nat.zero_le, d_beq, d_bne, d_bytes, byte_at, Int.toNat_natCast, toNat_lit, decide_eq_true, decide_eq_false, if_pos, if_neg, slA_len, slA_idx, slA_cells, flat_slA, one_slA, cells_slA, map_mid, strV_is, hp_get1, hp_get2, hp_get3, hp_set1, hp_set2, hp_set3, hp_old, hp_sold, set_got, set_set, set_next, set_other, bytesL, bytes_all, List.length_map, aapp_nils, aapp_wr, List.flatMap_cons, List.flatMap_nil, Nat.mul_one]
    exact hrow _ rfl
end
end Go.Proofs.Ytfilheaaacffmaa.AL

