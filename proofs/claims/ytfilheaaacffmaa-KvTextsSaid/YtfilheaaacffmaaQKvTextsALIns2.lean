/- One element put into a slice of one's own: the call. -/
import Derived.Test.YtfilheaaacffmaaQKvTextsALIns
import Derived.Test.YtfilheaaacffmaaQKvTextsALDKv
set_option linter.unusedSimpArgs false
set_option linter.unusedVariables false
set_option maxRecDepth 100000
set_option maxHeartbeats 16000000
namespace Go.Proofs.Ytfilheaaacffmaa.AL
open Go Go.Proofs
attribute [local go_sem] go_seq go_skip go_region go_regionN go_fregion rgF_some go_cond go_block go_exit go_ret nxt_nil nxt_code nxt_blk nxt_cut leave_nil leave_code leave_cut leave_blk rtn_nil rtn_code rtn_blk rtn_cut cnd_t cnd_f rgn_nil rgY_some rgY_none rgH_some rgP_some retTo_is rgV_func grd_und grd_tt grd_ff grd_tf grd_ft rgn_q rgn_alloc rgn_box rgn_store rgn_lit rgn_litw litCells_nil litCells_cons rgn_app rgn_copy rgn_mk rgn_s2b rgn_call rgn_callv rgn_stop rgn_slice3 aslice3 rgn_slice3l aslice3l rgn_appz rgn_clear rgn_range rgn_next arange acap rgn_put rgn_mkmap rgn_lookup rgn_mapup alookup_nilm alookup_map amapup_map afound_ok afound_no rgn_c rgn_cv qclV_func aloadr rgn_guard post_ret post_normal retY_some ares aresL ares1 AX.ev aput List.getD_cons_zero List.getD_cons_succ List.set_cons_zero List.set_cons_succ List.map_cons List.map_nil aq abin aint astr abeq aconv asame aextract alenS alenL_nils alenL_emp alenL_imm alenL_wr alenL_wc aun apart aload afieldAddr afield aidxSl_wr aidxSl_wc aidxSl_imm aidxPt aidxStr aidxArr abound asliceStr asliceSl asliceArr abest anonil afill astore acells_nils acells_emp acells_imm acells_wr acells_wc acells_str acopy litAll amk as2b anil nilOf aseq aeqs aeqv fits fit1 hp_next hp_push hp_get hp_set List.length_cons List.length_nil List.getElem?_cons_zero List.getElem?_cons_succ List.cons_append List.nil_append List.append_nil List.take_succ_cons List.take_zero List.drop_succ_cons List.drop_zero List.all_cons List.all_nil Option.map_some Option.some.injEq Bool.and_true Bool.true_and Bool.false_eq_true if_true if_false ite_true ite_false Bool.and_self true_and and_true and_self Nat.zero_add Nat.le_refl Int.toNat_natCast beq_self_eq_true eq_self tops_zero tops_succ Int.natCast_nonneg List.take_nil List.drop_nil Option.map_none flat_bool one_bool cells_bool flat_int one_int cells_int flat_str one_str cells_str flat_nilp one_nilp cells_nilp flat_ptr one_ptr cells_ptr flat_nils one_nils cells_nils flat_imm one_imm cells_imm flat_wr one_wr cells_wr flat_wc one_wc cells_wc flat_func one_func cells_func flat_nilf one_nilf cells_nilf flat_map one_map cells_map flat_nilm one_nilm cells_nilm flat_iface one_iface cells_iface flat_nili one_nili cells_nili flat_rd one_rd cells_rd flat_emp one_emp cells_emp flat_byteV one_byteV cells_byteV flat_agg cells_agg one_agg B_size B_list B_ext B_toList B_app List.take_length Int.le_refl
attribute [-go_sem] acopy
section
variable {G : AHeap} {e : TypeId} {gd d off len sz m : Nat} {R ys : List AV} {x : AV}
theorem copy_wr (hd : G.get d = some (.row e gd R)) (hc : acells G sz x = some (m, ys)) (h1 : ys.all AV.one = true) (hle : off + len * sz ≤ R.length) :
    acopy sz (hp G []) (.wr d gd off len sz) x = some (.int .i64 (min m len : Nat), hp (G.set d (.row e gd (R.take off ++ ys.take (min m len * sz) ++ R.drop (off + min m len * sz)))) []) := by
  unfold acopy
  simp only [hp_nil, hc, h1, if_true, hd]
  rw [if_pos ⟨trivial, trivial, hle⟩]
theorem copy_wc {cap : Nat} (hd : G.get d = some (.row e gd R)) (hc : acells G sz x = some (m, ys)) (h1 : (ys.take (min m len * sz)).all AV.one = true) (hle : off + len * sz ≤ R.length) :
    acopy sz (hp G []) (.wc d gd off len cap sz) x = some (.int .i64 (min m len : Nat), hp (G.set d (.row e gd (R.take off ++ ys.take (min m len * sz) ++ R.drop (off + min m len * sz)))) []) := by
  unfold acopy
  simp only [hp_nil, hc, hd]
  rw [if_pos ⟨trivial, trivial, hle, h1⟩]
theorem cells_wc_at {cap : Nat} (hd : G.get d = some (.row e gd R)) (hle : off + len * sz ≤ R.length) : acells G sz (.wc d gd off len cap sz) = some (len, (R.drop off).take (len * sz)) := by
  simp only [acells, if_true, hd]
  rw [if_pos ⟨trivial, hle⟩]
theorem aret_wc {n k cap : Nat} {K : AV → AHeap → Prop} (hn : n ≤ G.next) (hw : G.within G.next) (hd : G.get d = some (.row e gd R)) (hk : K (.wr d gd 0 k sz) (G.set d (.row e gd (R.take (k * sz))))) : ARet n K (.wc d gd 0 k cap sz) G := by
  refine ⟨G.set d (.row e gd (R.take (k * sz))), .wr d gd 0 k sz, G.next, .trans _ _ _ _ _ _ (.cut _ _ _ _ _ _ _ hd) (.soft _ _ _ _ _ _ _), hn, .wr _ _ _ _ _ (G.lt hd), ?_, ?_⟩
  · refine within_set hw (fun c hc => ?_)
    exact hw d _ (G.lt hd) hd c (List.mem_of_mem_take hc)
  · rw [show (G.set d (.row e gd (R.take (k * sz)))).trunc G.next = G.set d (.row e gd (R.take (k * sz))) from trunc_self _]
    exact hk
end
section
variable {H : AHeap} {K : AV → AHeap → Prop}
theorem insert_wc {id gen idv n cap at_ : Nat} {C ycs : List AV} (hg : H.get id = some (.row 94 gen C)) (hv : H.get idv = some (.row 94 0 ycs)) (hne : idv ≠ id)
    (hy : ycs.length = 2) (h1 : ycs.all AV.one = true) (hC : cap * 2 ≤ C.length) (hold : (C.take (n * 2)).all AV.one = true) (hn : n ≤ cap) (hc : cap ≤ 9223372036854775807) (hnb : n ≤ 1000000) (hat : at_ ≤ n)
    (hroom : ∀ R : List AV, R.take ((n + 1) * 2) = C.take (at_ * 2) ++ ycs ++ (C.take (n * 2)).drop (at_ * 2) → (H.set id (.row 94 gen (R.take ((n + 1) * 2)))).within H.next → K (.wr id gen 0 (n + 1) 2) (H.set id (.row 94 gen (R.take ((n + 1) * 2)))))
    (hgrow : (H.push (.row 94 0 (C.take (at_ * 2) ++ ycs ++ (C.take (n * 2)).drop (at_ * 2)))).within (H.next + 1) → K (.wr H.next 0 0 (n + 1) 2) (H.push (.row 94 0 (C.take (at_ * 2) ++ ycs ++ (C.take (n * 2)).drop (at_ * 2))))) :
    (ACalls Try.prog) 119 [.wc id gen 0 n cap 2, .int .i64 (at_ : Int), .wr idv 0 0 1 2] H K := by
  refine acalls_go mo t119 (fun hs hu => ?_)
  have hlg := H.lt hg
  have hlv := H.lt hv
  simp only [c119, go_sem, Nat.reduceLeDiff, Nat.reduceAdd, Nat.reduceSub, Nat.reduceMul, Nat.reduceLT, Int.reduceLT, Int.reduceLE, Int.reduceAdd, Int.reduceSub, Int.reduceMul, Int.reduceToNat, Int.reduceNeg, Int.reduceEq, Nat.reducePow, Int.reducePow, Nat.reduceEqDiff, decide_true, decide_false, reduceIte, reduceCtorEq, Int.reduceBEq, Int.reduceBNe, bne_self_eq_false, Int.cast_ofNat_Int, Bool.not_true, Bool.not_false, IntKind.bits]
  have hCu := hs id _ hlg hg
  have hYu := hs idv _ hlv hv
  have hall : ∀ (L : List AV), (∀ c ∈ L, c ∈ C ∨ c ∈ ycs) → AllU H.next L := fun L h c hc => (h c hc).elim (hCu c) (hYu c)
  have hpu : ∀ (L : List AV), (∀ c ∈ L, c ∈ C ∨ c ∈ ycs) → (H.push (.row 94 0 L)).within (H.push (.row 94 0 L)).next := fun L h => by
    have hpush : H.push (.row 94 0 L) = hp H [.row 94 0 L] := by
      have := hp_push H [] (.row 94 0 L)
      rw [hp_nil] at this
      exact this
    rw [hpush]
    refine within_hp2 hs (fun o ho => ?_)
    rw [List.mem_singleton] at ho
    subst ho
    exact fun c hc => up_under (Nat.le_succ _) (hall L h c hc)
  simp (maxSteps := 4000000) (disch := (first | omega | (simp only [set_next, List.length_append, List.length_cons, List.length_nil, List.length_take, List.length_drop, List.length_map, List.length_set, List.length_replicate]; omega) | (simp only [set_next, ne_eq, reduceCtorEq, not_false_eq_true]))) only [go_sem, Nat.reduceLeDiff, Nat.reduceAdd, Nat.reduceSub, Nat.reduceMul, Nat.reduceLT, Int.reduceLT, Int.reduceLE, Int.reduceAdd, Int.reduceSub, Int.reduceMul, Int.reduceToNat, Int.reduceNeg, Int.reduceEq, Nat.reducePow, Int.reducePow, Nat.reduceEqDiff, decide_true, decide_false, reduceIte, reduceCtorEq, Int.reduceBEq, Int.reduceBNe, bne_self_eq_false, Int.cast_ofNat_Int, Bool.not_true, Bool.not_false, IntKind.bits, w_nat, w_lit, w_add, w_addl, w_ladd, w_sub, w_subl, w_lsub, w_mul, w_mull, w_lmul, t_div, t_divl, t_mod, t_modl, i_lt, i_ltl, i_llt, i_le, i_lel, i_lle, i_eq, i_eql, i_leq, Nat.zero_le, d_beq, d_bne, d_bytes, byte_at, Int.toNat_natCast, toNat_lit, decide_eq_true, decide_eq_false, if_pos, if_neg, slA_len, slA_idx, slA_cells, flat_slA, one_slA, cells_slA, map_mid, strV_is, hp_get1, hp_get2, hp_get3, hp_set1, hp_set2, hp_set3, hp_old, hp_sold, set_got, set_set, set_next, set_other, bytesL, bytes_all, List.length_map, aapp_nils, aapp_wr, List.flatMap_cons, List.flatMap_nil, Nat.mul_one]
  by_cases d1 : at_ = n
  · subst d1
    have e0 : C.take (at_ * 2) ++ ycs ++ (C.take (at_ * 2)).drop (at_ * 2) = C.take (at_ * 2) ++ ycs := by
      rw [List.drop_of_length_le (by rw [List.length_take]; omega), List.append_nil]
    rw [e0] at hroom hgrow
    by_cases d2 : at_ + 1 ≤ cap
    · have hE := ins_room (b := 32) hg hv hy h1 hC d2 (by omega)
      simp (maxSteps := 4000000) (disch := (first | omega | (simp only [set_next, List.length_append, List.length_cons, List.length_nil, List.length_take, List.length_drop, List.length_map, List.length_set, List.length_replicate]; omega) | (simp only [set_next, ne_eq, reduceCtorEq, not_false_eq_true]))) only [hE, go_sem, Nat.reduceLeDiff, Nat.reduceAdd, Nat.reduceSub, Nat.reduceMul, Nat.reduceLT, Int.reduceLT, Int.reduceLE, Int.reduceAdd, Int.reduceSub, Int.reduceMul, Int.reduceToNat, Int.reduceNeg, Int.reduceEq, Nat.reducePow, Int.reducePow, Nat.reduceEqDiff, decide_true, decide_false, reduceIte, reduceCtorEq, Int.reduceBEq, Int.reduceBNe, bne_self_eq_false, Int.cast_ofNat_Int, Bool.not_true, Bool.not_false, IntKind.bits, w_nat, w_lit, w_add, w_addl, w_ladd, w_sub, w_subl, w_lsub, w_mul, w_mull, w_lmul, t_div, t_divl, t_mod, t_modl, i_lt, i_ltl, i_llt, i_le, i_lel, i_lle, i_eq, i_eql, i_leq, Nat.zero_le, d_beq, d_bne, d_bytes, byte_at, Int.toNat_natCast, toNat_lit, decide_eq_true, decide_eq_false, if_pos, if_neg, slA_len, slA_idx, slA_cells, flat_slA, one_slA, cells_slA, map_mid, strV_is, hp_get1, hp_get2, hp_get3, hp_set1, hp_set2, hp_set3, hp_old, hp_sold, set_got, set_set, set_next, set_other, bytesL, bytes_all, List.length_map, aapp_nils, aapp_wr, List.flatMap_cons, List.flatMap_nil, Nat.mul_one]
      rw [hp_nil]
      have hRm : ∀ c ∈ C.take (at_ * 2) ++ ycs ++ C.drop (at_ * 2 + 2), c ∈ C ∨ c ∈ ycs := fun c hc => by
        rcases List.mem_append.1 hc with q | q
        · rcases List.mem_append.1 q with q | q
          · exact .inl (List.mem_of_mem_take q)
          · exact .inr q
        · exact .inl (List.mem_of_mem_drop q)
      refine aret_wc (Nat.le_refl _) ?_ (set_got hlg) ?_
      · exact within_set hs (hall _ hRm)
      · rw [set_set]
        refine hroom _ ?_ (within_set hs (hall _ (fun c hc => hRm c (List.mem_of_mem_take hc))))
        rw [List.take_append_of_le_length (by rw [List.length_append, List.length_take, hy]; omega), List.take_of_length_le (by rw [List.length_append, List.length_take, hy]; omega)]
    · have hE := ins_grow (b := 32) hg hv hy h1 hC d2 hold (by omega)
      simp (maxSteps := 4000000) (disch := (first | omega | (simp only [set_next, List.length_append, List.length_cons, List.length_nil, List.length_take, List.length_drop, List.length_map, List.length_set, List.length_replicate]; omega) | (simp only [set_next, ne_eq, reduceCtorEq, not_false_eq_true]))) only [hE, go_sem, Nat.reduceLeDiff, Nat.reduceAdd, Nat.reduceSub, Nat.reduceMul, Nat.reduceLT, Int.reduceLT, Int.reduceLE, Int.reduceAdd, Int.reduceSub, Int.reduceMul, Int.reduceToNat, Int.reduceNeg, Int.reduceEq, Nat.reducePow, Int.reducePow, Nat.reduceEqDiff, decide_true, decide_false, reduceIte, reduceCtorEq, Int.reduceBEq, Int.reduceBNe, bne_self_eq_false, Int.cast_ofNat_Int, Bool.not_true, Bool.not_false, IntKind.bits, w_nat, w_lit, w_add, w_addl, w_ladd, w_sub, w_subl, w_lsub, w_mul, w_mull, w_lmul, t_div, t_divl, t_mod, t_modl, i_lt, i_ltl, i_llt, i_le, i_lel, i_lle, i_eq, i_eql, i_leq, Nat.zero_le, d_beq, d_bne, d_bytes, byte_at, Int.toNat_natCast, toNat_lit, decide_eq_true, decide_eq_false, if_pos, if_neg, slA_len, slA_idx, slA_cells, flat_slA, one_slA, cells_slA, map_mid, strV_is, hp_get1, hp_get2, hp_get3, hp_set1, hp_set2, hp_set3, hp_old, hp_sold, set_got, set_set, set_next, set_other, bytesL, bytes_all, List.length_map, aapp_nils, aapp_wr, List.flatMap_cons, List.flatMap_nil, Nat.mul_one]
      rw [hp_nil]
      have hw2 := hpu (C.take (at_ * 2) ++ ycs) (fun c hc => by
        rcases List.mem_append.1 hc with q | q
        · exact .inl (List.mem_of_mem_take q)
        · exact .inr q)
      exact aret_full (Nat.le_succ _) hw2 (.wr _ _ _ _ _ (Nat.lt_succ_self _)) (hgrow hw2)
  · have d3 : at_ < n := by omega
    have emid : (C.drop (at_ * 2)).take ((n - at_) * 2) = (C.take (n * 2)).drop (at_ * 2) := by
      rw [List.drop_take]
      congr 1
      omega
    by_cases d2 : n + 1 ≤ cap
    · simp (maxSteps := 4000000) (disch := (first | omega | (simp only [set_next, List.length_append, List.length_cons, List.length_nil, List.length_take, List.length_drop, List.length_map, List.length_set, List.length_replicate]; omega) | (simp only [set_next, ne_eq, reduceCtorEq, not_false_eq_true]))) only [go_sem, Nat.reduceLeDiff, Nat.reduceAdd, Nat.reduceSub, Nat.reduceMul, Nat.reduceLT, Int.reduceLT, Int.reduceLE, Int.reduceAdd, Int.reduceSub, Int.reduceMul, Int.reduceToNat, Int.reduceNeg, Int.reduceEq, Nat.reducePow, Int.reducePow, Nat.reduceEqDiff, decide_true, decide_false, reduceIte, reduceCtorEq, Int.reduceBEq, Int.reduceBNe, bne_self_eq_false, Int.cast_ofNat_Int, Bool.not_true, Bool.not_false, IntKind.bits, w_nat, w_lit, w_add, w_addl, w_ladd, w_sub, w_subl, w_lsub, w_mul, w_mull, w_lmul, t_div, t_divl, t_mod, t_modl, i_lt, i_ltl, i_llt, i_le, i_lel, i_lle, i_eq, i_eql, i_leq, Nat.zero_le, d_beq, d_bne, d_bytes, byte_at, Int.toNat_natCast, toNat_lit, decide_eq_true, decide_eq_false, if_pos, if_neg, slA_len, slA_idx, slA_cells, flat_slA, one_slA, cells_slA, map_mid, strV_is, hp_get1, hp_get2, hp_get3, hp_set1, hp_set2, hp_set3, hp_old, hp_sold, set_got, set_set, set_next, set_other, bytesL, bytes_all, List.length_map, aapp_nils, aapp_wr, List.flatMap_cons, List.flatMap_nil, Nat.mul_one]
      refine overlaps_a (H := hp H []) (cv := ycs) (cs := C) (by rw [hp_nil]; exact hv) (by rw [hp_nil]; exact hg) hne (by rw [hy]; decide) (by omega) ?_
      have hc1 := copy_wc (R := C) (sz := 2) (cap := cap - (at_ + 1)) (off := (at_ + 1) * 2) (len := n + 1 - (at_ + 1)) hg (cells_wc_at (R := C) (sz := 2) (cap := cap - at_) (off := at_ * 2) (len := n + 1 - at_) hg (by omega)) (by
        rw [show min (n + 1 - at_) (n + 1 - (at_ + 1)) = n - at_ by omega, List.take_take, show min ((n - at_) * 2) ((n + 1 - at_) * 2) = (n - at_) * 2 by omega, emid]
        rw [List.all_eq_true] at hold ⊢
        exact fun c hc => hold c (List.mem_of_mem_drop hc)) (by omega)
      rw [show min (n + 1 - at_) (n + 1 - (at_ + 1)) = n - at_ by omega, List.take_take, show min ((n - at_) * 2) ((n + 1 - at_) * 2) = (n - at_) * 2 by omega, emid] at hc1
      simp (maxSteps := 4000000) (disch := (first | omega | (simp only [set_next, List.length_append, List.length_cons, List.length_nil, List.length_take, List.length_drop, List.length_map, List.length_set, List.length_replicate]; omega) | (simp only [set_next, ne_eq, reduceCtorEq, not_false_eq_true]))) only [Nat.sub_zero, hc1, or_true, go_sem, Nat.reduceLeDiff, Nat.reduceAdd, Nat.reduceSub, Nat.reduceMul, Nat.reduceLT, Int.reduceLT, Int.reduceLE, Int.reduceAdd, Int.reduceSub, Int.reduceMul, Int.reduceToNat, Int.reduceNeg, Int.reduceEq, Nat.reducePow, Int.reducePow, Nat.reduceEqDiff, decide_true, decide_false, reduceIte, reduceCtorEq, Int.reduceBEq, Int.reduceBNe, bne_self_eq_false, Int.cast_ofNat_Int, Bool.not_true, Bool.not_false, IntKind.bits, w_nat, w_lit, w_add, w_addl, w_ladd, w_sub, w_subl, w_lsub, w_mul, w_mull, w_lmul, t_div, t_divl, t_mod, t_modl, i_lt, i_ltl, i_llt, i_le, i_lel, i_lle, i_eq, i_eql, i_leq, Nat.zero_le, d_beq, d_bne, d_bytes, byte_at, Int.toNat_natCast, toNat_lit, decide_eq_true, decide_eq_false, if_pos, if_neg, slA_len, slA_idx, slA_cells, flat_slA, one_slA, cells_slA, map_mid, strV_is, hp_get1, hp_get2, hp_get3, hp_set1, hp_set2, hp_set3, hp_old, hp_sold, set_got, set_set, set_next, set_other, bytesL, bytes_all, List.length_map, aapp_nils, aapp_wr, List.flatMap_cons, List.flatMap_nil, Nat.mul_one]
      have hmi : min 1 (n + 1 - at_) = 1 := by omega
      have hM : ((C.take (n * 2)).drop (at_ * 2)).length = (n - at_) * 2 := by rw [List.length_drop, List.length_take]; omega
      have hA : (C.take (at_ * 2)).length = at_ * 2 := by rw [List.length_take]; omega
      have hMC : ∀ c ∈ (C.take (n * 2)).drop (at_ * 2), c ∈ C := fun c hc => List.mem_of_mem_take (List.mem_of_mem_drop hc)
      generalize hMd : (C.take (n * 2)).drop (at_ * 2) = M at *
      have hc2 := copy_wc (G := H.set id (.row 94 gen (C.take ((at_ + 1) * 2) ++ M ++ C.drop ((at_ + 1) * 2 + (n - at_) * 2)))) (R := C.take ((at_ + 1) * 2) ++ M ++ C.drop ((at_ + 1) * 2 + (n - at_) * 2)) (sz := 2) (cap := cap - at_) (off := at_ * 2) (len := n + 1 - at_) (m := 1) (ys := ycs) (x := .wr idv 0 0 1 2) (set_got hlg) (by
        have := ins_cells (H := H.set id (.row 94 gen (C.take ((at_ + 1) * 2) ++ M ++ C.drop ((at_ + 1) * 2 + (n - at_) * 2)))) (idv := idv) (e := 94) (sz := 2) ((set_other hne).trans hv) hy
        rw [hp_nil] at this
        exact this) (by rw [hmi, List.take_of_length_le (by omega)]; exact h1) (by rw [List.length_append, List.length_append, List.length_take, List.length_drop]; omega)
      rw [hmi, List.take_of_length_le (l := ycs) (by omega)] at hc2
      have hR : (C.take ((at_ + 1) * 2) ++ M ++ C.drop ((at_ + 1) * 2 + (n - at_) * 2)).take (at_ * 2) = C.take (at_ * 2) := by
        rw [List.append_assoc, List.take_append_of_le_length (by rw [List.length_take]; omega), List.take_take, show min (at_ * 2) ((at_ + 1) * 2) = at_ * 2 by omega]
      have hR2 : (C.take ((at_ + 1) * 2) ++ M ++ C.drop ((at_ + 1) * 2 + (n - at_) * 2)).drop (at_ * 2 + 1 * 2) = M ++ C.drop ((at_ + 1) * 2 + (n - at_) * 2) := by
        rw [List.append_assoc, List.drop_append, List.drop_of_length_le (by rw [List.length_take]; omega), List.nil_append, show at_ * 2 + 1 * 2 - (C.take ((at_ + 1) * 2)).length = 0 by rw [List.length_take]; omega, List.drop_zero]
      rw [hR, hR2] at hc2
      simp (maxSteps := 4000000) (disch := (first | omega | (simp only [set_next, List.length_append, List.length_cons, List.length_nil, List.length_take, List.length_drop, List.length_map, List.length_set, List.length_replicate]; omega) | (simp only [set_next, ne_eq, reduceCtorEq, not_false_eq_true]))) only [hc2, go_sem, Nat.reduceLeDiff, Nat.reduceAdd, Nat.reduceSub, Nat.reduceMul, Nat.reduceLT, Int.reduceLT, Int.reduceLE, Int.reduceAdd, Int.reduceSub, Int.reduceMul, Int.reduceToNat, Int.reduceNeg, Int.reduceEq, Nat.reducePow, Int.reducePow, Nat.reduceEqDiff, decide_true, decide_false, reduceIte, reduceCtorEq, Int.reduceBEq, Int.reduceBNe, bne_self_eq_false, Int.cast_ofNat_Int, Bool.not_true, Bool.not_false, IntKind.bits, w_nat, w_lit, w_add, w_addl, w_ladd, w_sub, w_subl, w_lsub, w_mul, w_mull, w_lmul, t_div, t_divl, t_mod, t_modl, i_lt, i_ltl, i_llt, i_le, i_lel, i_lle, i_eq, i_eql, i_leq, Nat.zero_le, d_beq, d_bne, d_bytes, byte_at, Int.toNat_natCast, toNat_lit, decide_eq_true, decide_eq_false, if_pos, if_neg, slA_len, slA_idx, slA_cells, flat_slA, one_slA, cells_slA, map_mid, strV_is, hp_get1, hp_get2, hp_get3, hp_set1, hp_set2, hp_set3, hp_old, hp_sold, set_got, set_set, set_next, set_other, bytesL, bytes_all, List.length_map, aapp_nils, aapp_wr, List.flatMap_cons, List.flatMap_nil, Nat.mul_one]
      rw [hp_nil]
      have hRm : ∀ c ∈ C.take (at_ * 2) ++ ycs ++ (M ++ C.drop ((at_ + 1) * 2 + (n - at_) * 2)), c ∈ C ∨ c ∈ ycs := fun c hc => by
        rcases List.mem_append.1 hc with q | q
        · rcases List.mem_append.1 q with q | q
          · exact .inl (List.mem_of_mem_take q)
          · exact .inr q
        · rcases List.mem_append.1 q with q | q
          · exact .inl (hMC c q)
          · exact .inl (List.mem_of_mem_drop q)
      refine aret_wc (Nat.le_refl _) ?_ (set_got hlg) ?_
      · exact within_set hs (hall _ hRm)
      · rw [set_set]
        refine hroom _ ?_ (within_set hs (hall _ (fun c hc => hRm c (List.mem_of_mem_take hc))))
        rw [← List.append_assoc, List.take_append_of_le_length (by rw [List.length_append, List.length_append, hA, hy, hM]; omega), List.take_of_length_le (by rw [List.length_append, List.length_append, hA, hy, hM]; omega)]
    · have hz := ins_zeros (b := 32) (z := [.str (B []), .str (B [])]) (i := at_) (n := n) (m := ((n + 1 - at_ : Nat) : Int)) hg hC (by omega) rfl d2 (by
        rw [List.all_eq_true] at hold ⊢
        exact fun c hc => hold c (List.take_subset_take_left _ (by omega) hc)) (by omega)
      simp (maxSteps := 4000000) (disch := (first | omega | (simp only [set_next, List.length_append, List.length_cons, List.length_nil, List.length_take, List.length_drop, List.length_map, List.length_set, List.length_replicate]; omega) | (simp only [set_next, ne_eq, reduceCtorEq, not_false_eq_true]))) only [Nat.sub_zero, hz, or_true, go_sem, Nat.reduceLeDiff, Nat.reduceAdd, Nat.reduceSub, Nat.reduceMul, Nat.reduceLT, Int.reduceLT, Int.reduceLE, Int.reduceAdd, Int.reduceSub, Int.reduceMul, Int.reduceToNat, Int.reduceNeg, Int.reduceEq, Nat.reducePow, Int.reducePow, Nat.reduceEqDiff, decide_true, decide_false, reduceIte, reduceCtorEq, Int.reduceBEq, Int.reduceBNe, bne_self_eq_false, Int.cast_ofNat_Int, Bool.not_true, Bool.not_false, IntKind.bits, w_nat, w_lit, w_add, w_addl, w_ladd, w_sub, w_subl, w_lsub, w_mul, w_mull, w_lmul, t_div, t_divl, t_mod, t_modl, i_lt, i_ltl, i_llt, i_le, i_lel, i_lle, i_eq, i_eql, i_leq, Nat.zero_le, d_beq, d_bne, d_bytes, byte_at, Int.toNat_natCast, toNat_lit, decide_eq_true, decide_eq_false, if_pos, if_neg, slA_len, slA_idx, slA_cells, flat_slA, one_slA, cells_slA, map_mid, strV_is, hp_get1, hp_get2, hp_get3, hp_set1, hp_set2, hp_set3, hp_old, hp_sold, set_got, set_set, set_next, set_other, bytesL, bytes_all, List.length_map, aapp_nils, aapp_wr, List.flatMap_cons, List.flatMap_nil, Nat.mul_one]
      have hmi : min 1 (n + 1 - at_) = 1 := by omega
      have hM : ((C.take (n * 2)).drop (at_ * 2)).length = (n - at_) * 2 := by rw [List.length_drop, List.length_take]; omega
      have hA : (C.take (at_ * 2)).length = at_ * 2 := by rw [List.length_take]; omega
      have hMo : ((C.take (n * 2)).drop (at_ * 2)).all AV.one = true := by
        rw [List.all_eq_true] at hold ⊢
        exact fun c hc => hold c (List.mem_of_mem_drop hc)
      have hMC : ∀ c ∈ (C.take (n * 2)).drop (at_ * 2), c ∈ C := fun c hc => List.mem_of_mem_take (List.mem_of_mem_drop hc)
      generalize hMd : (C.take (n * 2)).drop (at_ * 2) = M at *
      have hZ : ((List.replicate (n + 1 - at_) [AV.str (B []), AV.str (B [])]).flatten).length = (n + 1 - at_) * 2 := by simp
      generalize (List.replicate (n + 1 - at_) [AV.str (B []), AV.str (B [])]).flatten = Z at *
      have hAC : ∀ c ∈ C.take (at_ * 2), c ∈ C := fun c hc => List.mem_of_mem_take hc
      have hc1 := copy_wr (G := H.push (.row 94 0 (C.take (at_ * 2) ++ Z))) (R := C.take (at_ * 2) ++ Z) (sz := 2) (off := at_ * 2) (len := n + 1 - at_) (m := 1) (ys := ycs) (x := .wr idv 0 0 1 2) (push_get_new _ _) (by
        have := ins_cells (H := H.push (.row 94 0 (C.take (at_ * 2) ++ Z))) (idv := idv) (e := 94) (sz := 2) ((push_get_old _ _ _ hlv).trans hv) hy
        rw [hp_nil] at this
        exact this) h1 (by rw [List.length_append, hA, hZ]; omega)
      rw [hmi, List.take_of_length_le (l := ycs) (by omega), set_push_new, List.take_left' hA, List.drop_append, List.drop_of_length_le (l := C.take (at_ * 2)) (by omega), List.nil_append, hA, show at_ * 2 + 1 * 2 - at_ * 2 = 2 by omega] at hc1
      simp (maxSteps := 4000000) (disch := (first | omega | (simp only [set_next, List.length_append, List.length_cons, List.length_nil, List.length_take, List.length_drop, List.length_map, List.length_set, List.length_replicate]; omega) | (simp only [set_next, ne_eq, reduceCtorEq, not_false_eq_true]))) only [hc1, go_sem, Nat.reduceLeDiff, Nat.reduceAdd, Nat.reduceSub, Nat.reduceMul, Nat.reduceLT, Int.reduceLT, Int.reduceLE, Int.reduceAdd, Int.reduceSub, Int.reduceMul, Int.reduceToNat, Int.reduceNeg, Int.reduceEq, Nat.reducePow, Int.reducePow, Nat.reduceEqDiff, decide_true, decide_false, reduceIte, reduceCtorEq, Int.reduceBEq, Int.reduceBNe, bne_self_eq_false, Int.cast_ofNat_Int, Bool.not_true, Bool.not_false, IntKind.bits, w_nat, w_lit, w_add, w_addl, w_ladd, w_sub, w_subl, w_lsub, w_mul, w_mull, w_lmul, t_div, t_divl, t_mod, t_modl, i_lt, i_ltl, i_llt, i_le, i_lel, i_lle, i_eq, i_eql, i_leq, Nat.zero_le, d_beq, d_bne, d_bytes, byte_at, Int.toNat_natCast, toNat_lit, decide_eq_true, decide_eq_false, if_pos, if_neg, slA_len, slA_idx, slA_cells, flat_slA, one_slA, cells_slA, map_mid, strV_is, hp_get1, hp_get2, hp_get3, hp_set1, hp_set2, hp_set3, hp_old, hp_sold, set_got, set_set, set_next, set_other, bytesL, bytes_all, List.length_map, aapp_nils, aapp_wr, List.flatMap_cons, List.flatMap_nil, Nat.mul_one]
      have hc2 := copy_wr (G := H.push (.row 94 0 (C.take (at_ * 2) ++ ycs ++ Z.drop 2))) (R := C.take (at_ * 2) ++ ycs ++ Z.drop 2) (sz := 2) (off := (at_ + 1) * 2) (len := n + 1 - (at_ + 1)) (push_get_new _ _) (cells_wc_at (R := C) (sz := 2) (cap := cap - at_) (off := at_ * 2) (len := n - at_) ((push_get_old _ _ _ hlg).trans hg) (by omega)) (by rw [emid]; exact hMo) (by rw [List.length_append, List.length_append, hA, hy, List.length_drop, hZ]; omega)
      rw [emid, show min (n - at_) (n + 1 - (at_ + 1)) = n - at_ by omega, List.take_of_length_le (l := M) (by omega), set_push_new, List.take_left' (by rw [List.length_append, hA, hy]; omega), List.drop_of_length_le (l := C.take (at_ * 2) ++ ycs ++ Z.drop 2) (by rw [List.length_append, List.length_append, hA, hy, List.length_drop, hZ]; omega), List.append_nil] at hc2
      simp (maxSteps := 4000000) (disch := (first | omega | (simp only [set_next, List.length_append, List.length_cons, List.length_nil, List.length_take, List.length_drop, List.length_map, List.length_set, List.length_replicate]; omega) | (simp only [set_next, ne_eq, reduceCtorEq, not_false_eq_true]))) only [hc2, or_true, go_sem, Nat.reduceLeDiff, Nat.reduceAdd, Nat.reduceSub, Nat.reduceMul, Nat.reduceLT, Int.reduceLT, Int.reduceLE, Int.reduceAdd, Int.reduceSub, Int.reduceMul, Int.reduceToNat, Int.reduceNeg, Int.reduceEq, Nat.reducePow, Int.reducePow, Nat.reduceEqDiff, decide_true, decide_false, reduceIte, reduceCtorEq, Int.reduceBEq, Int.reduceBNe, bne_self_eq_false, Int.cast_ofNat_Int, Bool.not_true, Bool.not_false, IntKind.bits, w_nat, w_lit, w_add, w_addl, w_ladd, w_sub, w_subl, w_lsub, w_mul, w_mull, w_lmul, t_div, t_divl, t_mod, t_modl, i_lt, i_ltl, i_llt, i_le, i_lel, i_lle, i_eq, i_eql, i_leq, Nat.zero_le, d_beq, d_bne, d_bytes, byte_at, Int.toNat_natCast, toNat_lit, decide_eq_true, decide_eq_false, if_pos, if_neg, slA_len, slA_idx, slA_cells, flat_slA, one_slA, cells_slA, map_mid, strV_is, hp_get1, hp_get2, hp_get3, hp_set1, hp_set2, hp_set3, hp_old, hp_sold, set_got, set_set, set_next, set_other, bytesL, bytes_all, List.length_map, aapp_nils, aapp_wr, List.flatMap_cons, List.flatMap_nil, Nat.mul_one]
      rw [hp_nil]
      have hw2 := hpu (C.take (at_ * 2) ++ ycs ++ M) (fun c hc => by
        rcases List.mem_append.1 hc with q | q
        · rcases List.mem_append.1 q with q | q
          · exact .inl (hAC c q)
          · exact .inr q
        · exact .inl (hMC c q))
      exact aret_full (Nat.le_succ _) hw2 (.wr _ _ _ _ _ (Nat.lt_succ_self _)) (hgrow hw2)
end
end Go.Proofs.Ytfilheaaacffmaa.AL

