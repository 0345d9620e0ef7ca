/- Writing told. -/
import Derived.Test.YtblflecalomgfaaALNor6
set_option linter.unusedSimpArgs false
set_option linter.unusedVariables false
set_option maxRecDepth 100000
namespace Go.Proofs.Ytblflecalomgfaa.AL
open Go Go.Proofs
attribute [local go_sem] go_seq go_skip go_region go_regionN go_cond go_block go_exit go_ret nxt_nil nxt_code nxt_blk nxt_cut leave_nil leave_code leave_cut leave_blk rtn_nil rtn_code rtn_blk rtn_cut cnd_t cnd_f rgn_nil rgY_some rgY_none rgH_some rgP_some retTo_is rgV_func grd_und grd_tt grd_ff grd_tf grd_ft rgn_q rgn_alloc rgn_box rgn_store rgn_lit rgn_litw litCells_nil litCells_cons rgn_app rgn_copy rgn_mk rgn_s2b rgn_call rgn_callv rgn_stop rgn_slice3 aslice3 rgn_put rgn_mkmap rgn_lookup rgn_mapup alookup_nilm alookup_map amapup_map afound_ok afound_no rgn_c rgn_cv qclV_func aloadr rgn_guard post_ret post_normal retY_some ares aresL ares1 AX.ev aput List.getD_cons_zero List.getD_cons_succ List.set_cons_zero List.set_cons_succ List.map_cons List.map_nil aq abin aint astr abeq aconv asame aextract alenS alenL_nils alenL_emp alenL_imm alenL_wr aun apart aload afieldAddr afield aidxSl_wr aidxSl_imm aidxPt aidxStr aidxArr abound asliceStr asliceSl asliceArr abest anonil afill astore acells_nils acells_emp acells_imm acells_wr acells_str acopy litAll amk as2b anil nilOf aseq aeqs aeqv fits fit1 hp_next hp_push hp_get hp_set List.length_cons List.length_nil List.getElem?_cons_zero List.getElem?_cons_succ List.cons_append List.nil_append List.append_nil List.take_succ_cons List.take_zero List.drop_succ_cons List.drop_zero List.all_cons List.all_nil Option.map_some Option.some.injEq Bool.and_true Bool.true_and Bool.false_eq_true if_true if_false ite_true ite_false Bool.and_self true_and and_true and_self Nat.zero_add Nat.le_refl Int.toNat_natCast beq_self_eq_true eq_self tops_zero tops_succ Int.natCast_nonneg List.take_nil List.drop_nil Option.map_none flat_bool one_bool cells_bool flat_int one_int cells_int flat_str one_str cells_str flat_nilp one_nilp cells_nilp flat_ptr one_ptr cells_ptr flat_nils one_nils cells_nils flat_imm one_imm cells_imm flat_wr one_wr cells_wr flat_func one_func cells_func flat_nilf one_nilf cells_nilf flat_map one_map cells_map flat_nilm one_nilm cells_nilm flat_iface one_iface cells_iface flat_nili one_nili cells_nili flat_rd one_rd cells_rd flat_emp one_emp cells_emp flat_byteV one_byteV cells_byteV flat_agg cells_agg one_agg B_size B_list B_ext B_toList B_app List.take_length Int.le_refl
theorem doC_len (x : Chp) (at_ n : Nat) (f : Nat → UInt8 → UInt8) (g : Nat → UInt8 → UInt8 → UInt8) : (x.doC at_ n f g).l.length = x.l.length := by
  unfold Chp.doC
  split
  · split
    · rw [blow_l]
    · exact mapAt_len _ _ _ _
  · exact mapAt_len _ _ _ _
theorem prog_len (x : Chp) (at_ : Int) (s : List UInt8) : (x.prog at_ s).1.l.length = x.l.length := by
  unfold Chp.prog
  repeat' split
  all_goals first | rfl | exact doC_len _ _ _ _ _
theorem erase_len (x : Chp) (s : Int) : (x.erase s).1.l.length = x.l.length := by
  unfold Chp.erase
  repeat' split
  all_goals first | rfl | exact doC_len _ _ _ _ _
def page (i : Nat) (s : List UInt8) : Nat := min s.length (32 - i % 32)
theorem page_pos (i : Nat) {s : List UInt8} (h : s ≠ []) : 0 < page i s := by
  have := List.length_pos_iff.2 h
  unfold page
  omega
def Chp.wr (x : Chp) (i : Nat) (s : List UInt8) : Chp × Int :=
  if h : s = [] then (x, 0) else
    if (x.prog (i : Int) (s.take (page i s))).2 = 0 then (x.prog (i : Int) (s.take (page i s))).1.wr (i + page i s) (s.drop (page i s)) else x.prog (i : Int) (s.take (page i s))
termination_by s.length
decreasing_by
  have := page_pos i h
  have := List.length_pos_iff.2 h
  simp only [List.length_drop]
  omega
def Chp.write (x : Chp) (at_ : Int) (s : List UInt8) : Chp × Int :=
  if x.on = true then (if hasN at_ (s.length : Int) = true then x.wr at_.toNat s else (x, 2)) else (x, 4)
theorem program_l {H : AHeap} {b c : Nat} (ok : ChipOk H b c) {l : List AObj} {x : Chp} (hl : x.l.length = 24576) {at_ : Int} {s : List UInt8} {K : AV → AHeap → Prop} (h : K (.int .i64 (x.prog at_ s).2) (hp (chipAt H b c (x.prog at_ s).1) l)) : (ACalls Try.prog) 78 [.ptr c 0 0, .int .i64 at_, .str (B s)] (hp (chipAt H b c x) l) K := chip_lift (fun _ _ o k => program_a o hl k) ok h
theorem write_a {H : AHeap} {b c : Nat} (ok : ChipOk H b c) {x : Chp} (hl : x.l.length = 24576) {at_ : Int} {s : List UInt8} {K : AV → AHeap → Prop} (h : K (.int .i64 (x.write at_ s).2) (chipAt H b c (x.write at_ s).1)) : (ACalls Try.prog) 27 [.ptr c 0 0, .int .i64 at_, .str (B s)] (chipAt H b c x) K := by
  refine acalls_go mo t27 (fun hs hu => ?_)
  have hin0 : ∀ y : Chp, (chipAt H b c y).within (chipAt H b c x).next := fun y => chip_in ok hs
  unfold Chp.write at h
  simp only [c27, go_sem, Nat.reduceLeDiff, Nat.reduceAdd, Nat.reduceSub, Nat.reduceMul, Nat.reduceLT, Int.reduceLT, Int.reduceLE, Int.reduceAdd, Int.reduceSub, Int.reduceMul, Int.reduceToNat, Int.reduceNeg, Int.reduceEq, Nat.reducePow, Int.reducePow, Nat.reduceEqDiff, decide_true, decide_false, reduceIte, reduceCtorEq, Int.reduceBEq, Int.reduceBNe, bne_self_eq_false, Int.cast_ofNat_Int, Bool.not_true, Bool.not_false, IntKind.bits]
  refine on_l ok ?_
  by_cases h1 : x.on = true
  · rw [if_pos h1] at h
    simp only [h1, go_sem, Nat.reduceLeDiff, Nat.reduceAdd, Nat.reduceSub, Nat.reduceMul, Nat.reduceLT, Int.reduceLT, Int.reduceLE, Int.reduceAdd, Int.reduceSub, Int.reduceMul, Int.reduceToNat, Int.reduceNeg, Int.reduceEq, Nat.reducePow, Int.reducePow, Nat.reduceEqDiff, decide_true, decide_false, reduceIte, reduceCtorEq, Int.reduceBEq, Int.reduceBNe, bne_self_eq_false, Int.cast_ofNat_Int, Bool.not_true, Bool.not_false, IntKind.bits]
    refine has_l ok ?_
    by_cases h4 : hasN at_ (s.length : Int) = true
    · rw [if_pos h4] at h
      have h5 := h4
      unfold hasN at h5
      simp only [decide_eq_true_eq] at h5
      obtain ⟨g1, g2, g3, g4⟩ := h5
      obtain ⟨i, rfl⟩ := Int.eq_ofNat_of_zero_le g1
      have g5 : i + s.length ≤ 24576 := by omega
      simp only [Int.toNat_natCast] at h
      simp only [h4, go_sem, Nat.reduceLeDiff, Nat.reduceAdd, Nat.reduceSub, Nat.reduceMul, Nat.reduceLT, Int.reduceLT, Int.reduceLE, Int.reduceAdd, Int.reduceSub, Int.reduceMul, Int.reduceToNat, Int.reduceNeg, Int.reduceEq, Nat.reducePow, Int.reducePow, Nat.reduceEqDiff, decide_true, decide_false, reduceIte, reduceCtorEq, Int.reduceBEq, Int.reduceBNe, bne_self_eq_false, Int.cast_ofNat_Int, Bool.not_true, Bool.not_false, IntKind.bits]
      refine go_loopS mono (σ := Chp × Nat × List UInt8) (fun t => [(1, .int .i64 (t.2.1 : Int)), (2, .str (B t.2.2))]) (fun t => hp (chipAt H b c t.1) []) (fun t => t.1.wr t.2.1 t.2.2 = x.wr i s ∧ t.1.l.length = 24576 ∧ t.2.1 + t.2.2.length ≤ 24576) (fun t => t.2.2.length) (x, i, s) ?_ rfl ⟨rfl, hl, g5⟩ (fun t ht J hJ => ?_)
      · (simp only [blurR_nil, blurR_some, blurR_none, blurC_region, blurC_regionN, blurC_seq, blurC_cond, blurC_block, blurC_loop, blurC_skip, blurC_exit, blurC_ret, tellS_nil, tellS_cons, List.set_cons_zero, List.set_cons_succ, tops_zero, tops_succ]; repeat first | exact forget_nil | apply forget_keep | apply forget_top)
      obtain ⟨y, k, r⟩ := t
      obtain ⟨t1, t2, t3⟩ := ht
      simp only at t1 t2 t3 hJ ⊢
      simp only [blurR_nil, blurR_some, blurR_none, blurC_region, blurC_regionN, blurC_seq, blurC_cond, blurC_block, blurC_loop, blurC_skip, blurC_exit, blurC_ret, tellS_nil, tellS_cons, List.set_cons_zero, List.set_cons_succ, tops_zero, tops_succ]
      by_cases h6 : r = []
      · subst h6
        rw [Chp.wr, dif_pos rfl] at t1
        rw [← t1] at h
        simp (maxSteps := 4000000) (disch := (first | omega | (simp only [set_next, List.length_append, List.length_cons, List.length_nil, List.length_take, List.length_drop, List.length_map, List.length_set, List.length_replicate]; omega) | (simp only [set_next, ne_eq, reduceCtorEq, not_false_eq_true]))) only [go_sem, Nat.reduceLeDiff, Nat.reduceAdd, Nat.reduceSub, Nat.reduceMul, Nat.reduceLT, Int.reduceLT, Int.reduceLE, Int.reduceAdd, Int.reduceSub, Int.reduceMul, Int.reduceToNat, Int.reduceNeg, Int.reduceEq, Nat.reducePow, Int.reducePow, Nat.reduceEqDiff, decide_true, decide_false, reduceIte, reduceCtorEq, Int.reduceBEq, Int.reduceBNe, bne_self_eq_false, Int.cast_ofNat_Int, Bool.not_true, Bool.not_false, IntKind.bits, w_nat, w_lit, w_add, w_addl, w_ladd, w_sub, w_subl, w_lsub, w_mul, w_mull, w_lmul, t_div, t_divl, t_mod, t_modl, i_lt, i_ltl, i_llt, i_le, i_lel, i_lle, i_eq, i_eql, i_leq, Nat.zero_le, d_beq, d_bne, d_bytes, byte_at, Int.toNat_natCast, toNat_lit, decide_eq_true, decide_eq_false, if_pos, if_neg, slA_len, slA_idx, slA_cells, flat_slA, one_slA, cells_slA, map_mid, strV_is, hp_get1, hp_get2, hp_get3, hp_set1, hp_set2, hp_set3, hp_old, hp_sold, set_got, set_set, set_next, set_other, bytesL, bytes_all, List.length_map, aapp_nils, aapp_wr, List.flatMap_cons, List.flatMap_nil, Nat.mul_one]
        exact aret_old rfl (hin0 _) (.int _ _) h
      · have h6p : 0 < r.length := List.length_pos_iff.2 h6
        rw [Chp.wr, dif_neg h6] at t1
        have hp1 : page k r = if 32 - k % 32 < r.length then 32 - k % 32 else r.length := by unfold page; split <;> omega
        have hp2 := page_pos k h6
        have hp3 : page k r ≤ r.length := Nat.min_le_left _ _
        have hmk : k % 32 < 32 := Nat.mod_lt _ (by omega)
        have hbst : (if 32 - k % 32 < r.length then ((32 - k % 32 : Nat) : Int) else (r.length : Int)) = (page k r : Int) := by
          rw [hp1]
          split <;> rfl
        generalize page k r = n at *
        simp (maxSteps := 4000000) (disch := (first | omega | (simp only [set_next, List.length_append, List.length_cons, List.length_nil, List.length_take, List.length_drop, List.length_map, List.length_set, List.length_replicate]; omega) | (simp only [set_next, ne_eq, reduceCtorEq, not_false_eq_true]))) only [h6, hbst, go_sem, Nat.reduceLeDiff, Nat.reduceAdd, Nat.reduceSub, Nat.reduceMul, Nat.reduceLT, Int.reduceLT, Int.reduceLE, Int.reduceAdd, Int.reduceSub, Int.reduceMul, Int.reduceToNat, Int.reduceNeg, Int.reduceEq, Nat.reducePow, Int.reducePow, Nat.reduceEqDiff, decide_true, decide_false, reduceIte, reduceCtorEq, Int.reduceBEq, Int.reduceBNe, bne_self_eq_false, Int.cast_ofNat_Int, Bool.not_true, Bool.not_false, IntKind.bits, w_nat, w_lit, w_add, w_addl, w_ladd, w_sub, w_subl, w_lsub, w_mul, w_mull, w_lmul, t_div, t_divl, t_mod, t_modl, i_lt, i_ltl, i_llt, i_le, i_lel, i_lle, i_eq, i_eql, i_leq, Nat.zero_le, d_beq, d_bne, d_bytes, byte_at, Int.toNat_natCast, toNat_lit, decide_eq_true, decide_eq_false, if_pos, if_neg, slA_len, slA_idx, slA_cells, flat_slA, one_slA, cells_slA, map_mid, strV_is, hp_get1, hp_get2, hp_get3, hp_set1, hp_set2, hp_set3, hp_old, hp_sold, set_got, set_set, set_next, set_other, bytesL, bytes_all, List.length_map, aapp_nils, aapp_wr, List.flatMap_cons, List.flatMap_nil, Nat.mul_one]
        refine program_l ok t2 ?_
        have hpl := prog_len y (k : Int) (r.take n)
        generalize y.prog (k : Int) (r.take n) = q at *
        by_cases h7 : q.2 = 0
        · rw [if_pos h7] at t1
          simp (maxSteps := 4000000) (disch := (first | omega | (simp only [set_next, List.length_append, List.length_cons, List.length_nil, List.length_take, List.length_drop, List.length_map, List.length_set, List.length_replicate]; omega) | (simp only [set_next, ne_eq, reduceCtorEq, not_false_eq_true]))) only [h7, go_sem, Nat.reduceLeDiff, Nat.reduceAdd, Nat.reduceSub, Nat.reduceMul, Nat.reduceLT, Int.reduceLT, Int.reduceLE, Int.reduceAdd, Int.reduceSub, Int.reduceMul, Int.reduceToNat, Int.reduceNeg, Int.reduceEq, Nat.reducePow, Int.reducePow, Nat.reduceEqDiff, decide_true, decide_false, reduceIte, reduceCtorEq, Int.reduceBEq, Int.reduceBNe, bne_self_eq_false, Int.cast_ofNat_Int, Bool.not_true, Bool.not_false, IntKind.bits, w_nat, w_lit, w_add, w_addl, w_ladd, w_sub, w_subl, w_lsub, w_mul, w_mull, w_lmul, t_div, t_divl, t_mod, t_modl, i_lt, i_ltl, i_llt, i_le, i_lel, i_lle, i_eq, i_eql, i_leq, Nat.zero_le, d_beq, d_bne, d_bytes, byte_at, Int.toNat_natCast, toNat_lit, decide_eq_true, decide_eq_false, if_pos, if_neg, slA_len, slA_idx, slA_cells, flat_slA, one_slA, cells_slA, map_mid, strV_is, hp_get1, hp_get2, hp_get3, hp_set1, hp_set2, hp_set3, hp_old, hp_sold, set_got, set_set, set_next, set_other, bytesL, bytes_all, List.length_map, aapp_nils, aapp_wr, List.flatMap_cons, List.flatMap_nil, Nat.mul_one]
          exact hJ (q.1, k + n, r.drop n) _ ⟨t1, by rw [hpl]; exact t2, by simp only [List.length_drop]; omega⟩ (by simp only [List.length_drop]; omega) (by (simp only [blurR_nil, blurR_some, blurR_none, blurC_region, blurC_regionN, blurC_seq, blurC_cond, blurC_block, blurC_loop, blurC_skip, blurC_exit, blurC_ret, tellS_nil, tellS_cons, List.set_cons_zero, List.set_cons_succ, tops_zero, tops_succ]; repeat first | exact forget_nil | apply forget_keep | apply forget_top))
        · rw [if_neg h7] at t1
          rw [← t1] at h
          simp (maxSteps := 4000000) (disch := (first | omega | (simp only [set_next, List.length_append, List.length_cons, List.length_nil, List.length_take, List.length_drop, List.length_map, List.length_set, List.length_replicate]; omega) | (simp only [set_next, ne_eq, reduceCtorEq, not_false_eq_true]))) only [h7, go_sem, Nat.reduceLeDiff, Nat.reduceAdd, Nat.reduceSub, Nat.reduceMul, Nat.reduceLT, Int.reduceLT, Int.reduceLE, Int.reduceAdd, Int.reduceSub, Int.reduceMul, Int.reduceToNat, Int.reduceNeg, Int.reduceEq, Nat.reducePow, Int.reducePow, Nat.reduceEqDiff, decide_true, decide_false, reduceIte, reduceCtorEq, Int.reduceBEq, Int.reduceBNe, bne_self_eq_false, Int.cast_ofNat_Int, Bool.not_true, Bool.not_false, IntKind.bits, w_nat, w_lit, w_add, w_addl, w_ladd, w_sub, w_subl, w_lsub, w_mul, w_mull, w_lmul, t_div, t_divl, t_mod, t_modl, i_lt, i_ltl, i_llt, i_le, i_lel, i_lle, i_eq, i_eql, i_leq, Nat.zero_le, d_beq, d_bne, d_bytes, byte_at, Int.toNat_natCast, toNat_lit, decide_eq_true, decide_eq_false, if_pos, if_neg, slA_len, slA_idx, slA_cells, flat_slA, one_slA, cells_slA, map_mid, strV_is, hp_get1, hp_get2, hp_get3, hp_set1, hp_set2, hp_set3, hp_old, hp_sold, set_got, set_set, set_next, set_other, bytesL, bytes_all, List.length_map, aapp_nils, aapp_wr, List.flatMap_cons, List.flatMap_nil, Nat.mul_one]
          exact aret_old rfl (hin0 _) (.int _ _) h
    · rw [if_neg h4] at h
      rw [Bool.not_eq_true] at h4
      simp only [h4, go_sem, Nat.reduceLeDiff, Nat.reduceAdd, Nat.reduceSub, Nat.reduceMul, Nat.reduceLT, Int.reduceLT, Int.reduceLE, Int.reduceAdd, Int.reduceSub, Int.reduceMul, Int.reduceToNat, Int.reduceNeg, Int.reduceEq, Nat.reducePow, Int.reducePow, Nat.reduceEqDiff, decide_true, decide_false, reduceIte, reduceCtorEq, Int.reduceBEq, Int.reduceBNe, bne_self_eq_false, Int.cast_ofNat_Int, Bool.not_true, Bool.not_false, IntKind.bits]
      exact aret_old rfl (hin0 _) (.int _ _) h
  · rw [if_neg h1] at h
    rw [Bool.not_eq_true] at h1
    simp only [h1, go_sem, Nat.reduceLeDiff, Nat.reduceAdd, Nat.reduceSub, Nat.reduceMul, Nat.reduceLT, Int.reduceLT, Int.reduceLE, Int.reduceAdd, Int.reduceSub, Int.reduceMul, Int.reduceToNat, Int.reduceNeg, Int.reduceEq, Nat.reducePow, Int.reducePow, Nat.reduceEqDiff, decide_true, decide_false, reduceIte, reduceCtorEq, Int.reduceBEq, Int.reduceBNe, bne_self_eq_false, Int.cast_ofNat_Int, Bool.not_true, Bool.not_false, IntKind.bits]
    exact aret_old rfl (hin0 _) (.int _ _) h
end Go.Proofs.Ytblflecalomgfaa.AL
