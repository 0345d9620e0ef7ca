/- Spans told: joined, by the program. -/
import Derived.Test.YtdknpnmdjjmapaaQReserveBytesALRes4
import Derived.Test.YtdknpnmdjjmapaaQReserveBytesALSortS
set_option linter.unusedSimpArgs false
set_option linter.unusedVariables false
set_option maxRecDepth 100000
set_option maxHeartbeats 16000000
namespace Go.Proofs.Ytdknpnmdjjmapaa.AL
open Go Go.Proofs
attribute [local go_sem] go_seq go_skip go_region go_regionN go_fregion rgF_some go_cond go_block go_exit go_ret nxt_nil nxt_code nxt_blk nxt_cut leave_nil leave_code leave_cut leave_blk rtn_nil rtn_code rtn_blk rtn_cut cnd_t cnd_f rgn_nil rgY_some rgY_none rgH_some rgP_some retTo_is rgV_func grd_und grd_tt grd_ff grd_tf grd_ft rgn_q rgn_alloc rgn_box rgn_store rgn_lit rgn_litw litCells_nil litCells_cons rgn_app rgn_copy rgn_mk rgn_s2b rgn_call rgn_callv rgn_stop rgn_slice3 aslice3 rgn_slice3l aslice3l rgn_appz rgn_clear rgn_range rgn_next arange acap rgn_put rgn_mkmap rgn_lookup rgn_mapup alookup_nilm alookup_map amapup_map afound_ok afound_no rgn_c rgn_cv qclV_func aloadr rgn_guard post_ret post_normal retY_some ares aresL ares1 AX.ev aput List.getD_cons_zero List.getD_cons_succ List.set_cons_zero List.set_cons_succ List.map_cons List.map_nil aq abin aint astr abeq aconv asame aextract alenS alenL_nils alenL_emp alenL_imm alenL_wr alenL_wc aun apart aload afieldAddr afield aidxSl_wr aidxSl_wc aidxSl_imm aidxPt aidxStr aidxArr abound asliceStr asliceSl asliceArr abest anonil afill astore acells_nils acells_emp acells_imm acells_wr acells_wc acells_str acopy litAll amk as2b anil nilOf aseq aeqs aeqv fits fit1 hp_next hp_push hp_get hp_set List.length_cons List.length_nil List.getElem?_cons_zero List.getElem?_cons_succ List.cons_append List.nil_append List.append_nil List.take_succ_cons List.take_zero List.drop_succ_cons List.drop_zero List.all_cons List.all_nil Option.map_some Option.some.injEq Bool.and_true Bool.true_and Bool.false_eq_true if_true if_false ite_true ite_false Bool.and_self true_and and_true and_self Nat.zero_add Nat.le_refl Int.toNat_natCast beq_self_eq_true eq_self tops_zero tops_succ Int.natCast_nonneg List.take_nil List.drop_nil Option.map_none flat_bool one_bool cells_bool flat_int one_int cells_int flat_str one_str cells_str flat_nilp one_nilp cells_nilp flat_ptr one_ptr cells_ptr flat_nils one_nils cells_nils flat_imm one_imm cells_imm flat_wr one_wr cells_wr flat_wc one_wc cells_wc flat_func one_func cells_func flat_nilf one_nilf cells_nilf flat_map one_map cells_map flat_nilm one_nilm cells_nilm flat_iface one_iface cells_iface flat_nili one_nili cells_nili flat_rd one_rd cells_rd flat_emp one_emp cells_emp flat_byteV one_byteV cells_byteV flat_agg cells_agg one_agg B_size B_list B_ext B_toList B_app List.take_length Int.le_refl
theorem sps_snoc (o : List (Int × Int)) (q : Int × Int) : ((o ++ [q]).map spV).flatMap AV.cells = (o.map spV).flatMap AV.cells ++ [.int .i64 q.1, .int .i64 q.2] := by
  rw [List.map_append, List.flatMap_append]
  rfl
theorem snoc_or {α : Type} (l : List α) : l = [] ∨ ∃ o q, l = o ++ [q] := by
  refine snoc_ind (P := fun l => l = [] ∨ ∃ o q, l = o ++ [q]) (.inl rfl) (fun o q _ => .inr ⟨o, q, rfl⟩) l
theorem filter_cov {l d : List (Int × Int)} (h : d.Perm (l.filter someS)) : (∀ p ∈ d, someS p = true) ∧ ∀ b, covJ d b ↔ inL l b := by
  have hm : ∀ p, p ∈ d ↔ p ∈ l ∧ someS p = true := fun p => by rw [h.mem_iff, List.mem_filter]
  exact ⟨fun p hp => ((hm p).1 hp).2, fun b => ⟨fun ⟨p, hp, hi⟩ => ⟨p, ((hm p).1 hp).1, ((hm p).1 hp).2, hi⟩, fun ⟨p, hp, hs, hi⟩ => ⟨p, (hm p).2 ⟨hp, hs⟩, hi⟩⟩⟩
theorem sort_ord {d : List (Int × Int)} (h : d.Pairwise (fun p q => p.1 ≤ q.1)) {i : Nat} (hi : i < d.length) : ∀ p ∈ d.take i, p.1 ≤ (d.getD i (0, 0)).1 := by
  have h2 : (d.take i ++ [d.getD i (0, 0)]).Pairwise (fun p q => p.1 ≤ q.1) := by
    rw [← sp_step hi]
    exact h.sublist (List.take_sublist _ _)
  exact fun p hp => (List.pairwise_append.1 h2).2.2 p hp _ (by simp)
theorem row_set {Ro : List AV} {m : Nat} {a b n : AV} (h : Ro.length = m) : (Ro ++ [a, b]).take (m + 1) ++ [n] ++ (Ro ++ [a, b]).drop (m + 1 + 1) = Ro ++ [a, n] := by
  subst h
  rw [List.take_append, List.take_of_length_le (by omega), List.drop_append, List.drop_of_length_le (by omega)]
  simp [show Ro.length + 1 - Ro.length = 1 by omega, show Ro.length + 1 + 1 - Ro.length = 2 by omega]
section
variable {H : AHeap} {K : AV → AHeap → Prop}
theorem join1_a {y : Int × Int} (h : K (.bool (!someS y)) H) : (ACalls Try.prog) 57 [spV y] H K := by
  refine acalls_go mo t57 (fun hs hu => ?_)
  simp only [c57, spV_is, go_sem, Nat.reduceLeDiff, Nat.reduceAdd, Nat.reduceSub, Nat.reduceMul, Nat.reduceLT, Int.reduceLT, Int.reduceLE, Int.reduceAdd, Int.reduceSub, Int.reduceMul, Int.reduceToNat, Int.reduceNeg, Int.reduceEq, Nat.reducePow, Int.reducePow, Nat.reduceEqDiff, decide_true, decide_false, reduceIte, reduceCtorEq, Int.reduceBEq, Int.reduceBNe, bne_self_eq_false, Int.cast_ofNat_Int, Bool.not_true, Bool.not_false, IntKind.bits]
  rw [← spV_is]
  refine some_a ?_
  simp (maxSteps := 4000000) (disch := (first | omega | (simp only [set_next, List.length_append, List.length_cons, List.length_nil, List.length_take, List.length_drop, List.length_map, List.length_set, List.length_replicate]; omega) | (simp only [set_next, ne_eq, reduceCtorEq, not_false_eq_true]))) only [go_sem, Nat.reduceLeDiff, Nat.reduceAdd, Nat.reduceSub, Nat.reduceMul, Nat.reduceLT, Int.reduceLT, Int.reduceLE, Int.reduceAdd, Int.reduceSub, Int.reduceMul, Int.reduceToNat, Int.reduceNeg, Int.reduceEq, Nat.reducePow, Int.reducePow, Nat.reduceEqDiff, decide_true, decide_false, reduceIte, reduceCtorEq, Int.reduceBEq, Int.reduceBNe, bne_self_eq_false, Int.cast_ofNat_Int, Bool.not_true, Bool.not_false, IntKind.bits, w_nat, w_lit, w_add, w_addl, w_ladd, w_sub, w_subl, w_lsub, w_mul, w_mull, w_lmul, t_div, t_divl, t_mod, t_modl, i_lt, i_ltl, i_llt, i_le, i_lel, i_lle, i_eq, i_eql, i_leq, Nat.zero_le, d_beq, d_bne, d_bytes, byte_at, Int.toNat_natCast, toNat_lit, decide_eq_true, decide_eq_false, if_pos, if_neg, slA_len, slA_idx, slA_cells, flat_slA, one_slA, cells_slA, map_mid, strV_is, hp_get1, hp_get2, hp_get3, hp_set1, hp_set2, hp_set3, hp_old, hp_sold, set_got, set_set, set_next, set_other, bytesL, bytes_all, List.length_map, aapp_nils, aapp_wr, List.flatMap_cons, List.flatMap_nil, Nat.mul_one]
  exact aret_plain hs (by simp only [u_top, u_bool, u_int, u_str, u_nilp, u_nils, u_nilf, u_nilm, u_nili, u_emp, u_byteV, u_ptr, u_wr, u_wc, u_agg, u_tup, u_rd, u_imm, u_func, u_nil, u_cons, u_app, uc_nil, uc_cons, uc_app, u_bytes, uc_bytes, u_ints, uc_ints, cells_bool, cells_int, cells_str, cells_agg, cells_ptr, cells_nils, cells_imm, cells_wr, cells_wc, cells_nilp, cells_nilf, cells_nilm, cells_rd, cells_emp, cells_byteV, cells_func, and_self, and_true, true_and, u_slA, uc_strs, cells_slA, strV_is]) (h)
theorem Join_a {k : Nat} {l : List (Int × Int)} (hn : l.length ≤ 100000) (h : ∀ k J, JoinOf l J → J.length ≤ l.length → K (slA k 2 (J.map spV)) H) : (ACalls Try.prog) 26 [slA k 2 (l.map spV)] H K := by
  refine acalls_go mo t26 (fun hs hu => ?_)
  simp only [c26, go_sem, Nat.reduceLeDiff, Nat.reduceAdd, Nat.reduceSub, Nat.reduceMul, Nat.reduceLT, Int.reduceLT, Int.reduceLE, Int.reduceAdd, Int.reduceSub, Int.reduceMul, Int.reduceToNat, Int.reduceNeg, Int.reduceEq, Nat.reducePow, Int.reducePow, Nat.reduceEqDiff, decide_true, decide_false, reduceIte, reduceCtorEq, Int.reduceBEq, Int.reduceBNe, bne_self_eq_false, Int.cast_ofNat_Int, Bool.not_true, Bool.not_false, IntKind.bits]
  refine sclone_a (by omega) (fun v0 G1 hv0 hG1 hw1 => ?_)
  rw [hp_nil] at hv0 hG1
  rw [← hp_nil (H := G1)]
  simp (maxSteps := 4000000) (disch := (first | omega | (simp only [set_next, List.length_append, List.length_cons, List.length_nil, List.length_take, List.length_drop, List.length_map, List.length_set, List.length_replicate]; omega) | (simp only [set_next, ne_eq, reduceCtorEq, not_false_eq_true]))) only [go_sem, Nat.reduceLeDiff, Nat.reduceAdd, Nat.reduceSub, Nat.reduceMul, Nat.reduceLT, Int.reduceLT, Int.reduceLE, Int.reduceAdd, Int.reduceSub, Int.reduceMul, Int.reduceToNat, Int.reduceNeg, Int.reduceEq, Nat.reducePow, Int.reducePow, Nat.reduceEqDiff, decide_true, decide_false, reduceIte, reduceCtorEq, Int.reduceBEq, Int.reduceBNe, bne_self_eq_false, Int.cast_ofNat_Int, Bool.not_true, Bool.not_false, IntKind.bits, w_nat, w_lit, w_add, w_addl, w_ladd, w_sub, w_subl, w_lsub, w_mul, w_mull, w_lmul, t_div, t_divl, t_mod, t_modl, i_lt, i_ltl, i_llt, i_le, i_lel, i_lle, i_eq, i_eql, i_leq, Nat.zero_le, d_beq, d_bne, d_bytes, byte_at, Int.toNat_natCast, toNat_lit, decide_eq_true, decide_eq_false, if_pos, if_neg, slA_len, slA_idx, slA_cells, flat_slA, one_slA, cells_slA, map_mid, strV_is, hp_get1, hp_get2, hp_get3, hp_set1, hp_set2, hp_set3, hp_old, hp_sold, set_got, set_set, set_next, set_other, bytesL, bytes_all, List.length_map, aapp_nils, aapp_wr, List.flatMap_cons, List.flatMap_nil, Nat.mul_one]
  refine deleteS_a (H := hp G1 []) (p := fun q => !someS q) (cs := []) (slat_hp hv0 []) hn (fun x hx G2 K2 hk => join1_a hk) (fun v1 G2 hv1 ho1 hn1 _ => ?_)
  have hfe : l.filter (fun x => !(fun q => !someS q) x) = l.filter someS := by
    congr 1
    funext x
    simp
  rw [hfe] at hv1
  have hfl : (l.filter someS).length ≤ l.length := List.length_filter_le _ _
  have hP2 : Past H G2 := ⟨by rw [hn1, hp_nil]; exact hG1.next, fun i hi => by
    rw [ho1 i (slat_nid hv0 hi), hp_nil]
    exact hG1.get i hi⟩
  rw [← hp_nil (H := G2)]
  simp (maxSteps := 4000000) (disch := (first | omega | (simp only [set_next, List.length_append, List.length_cons, List.length_nil, List.length_take, List.length_drop, List.length_map, List.length_set, List.length_replicate]; omega) | (simp only [set_next, ne_eq, reduceCtorEq, not_false_eq_true]))) only [go_sem, Nat.reduceLeDiff, Nat.reduceAdd, Nat.reduceSub, Nat.reduceMul, Nat.reduceLT, Int.reduceLT, Int.reduceLE, Int.reduceAdd, Int.reduceSub, Int.reduceMul, Int.reduceToNat, Int.reduceNeg, Int.reduceEq, Nat.reducePow, Int.reducePow, Nat.reduceEqDiff, decide_true, decide_false, reduceIte, reduceCtorEq, Int.reduceBEq, Int.reduceBNe, bne_self_eq_false, Int.cast_ofNat_Int, Bool.not_true, Bool.not_false, IntKind.bits, w_nat, w_lit, w_add, w_addl, w_ladd, w_sub, w_subl, w_lsub, w_mul, w_mull, w_lmul, t_div, t_divl, t_mod, t_modl, i_lt, i_ltl, i_llt, i_le, i_lel, i_lle, i_eq, i_eql, i_leq, Nat.zero_le, d_beq, d_bne, d_bytes, byte_at, Int.toNat_natCast, toNat_lit, decide_eq_true, decide_eq_false, if_pos, if_neg, slA_len, slA_idx, slA_cells, flat_slA, one_slA, cells_slA, map_mid, strV_is, hp_get1, hp_get2, hp_get3, hp_set1, hp_set2, hp_set3, hp_old, hp_sold, set_got, set_set, set_next, set_other, bytesL, bytes_all, List.length_map, aapp_nils, aapp_wr, List.flatMap_cons, List.flatMap_nil, Nat.mul_one]
  refine sortSp_a t58 (n0 := H.next) (slat_hp hv1 []) (by omega) (fun d G3 hd1 hd2 hd3 hv3 hn3 ho3 => ?_)
  have hP3 : Past H G3 := ⟨by rw [hn3, hp_nil]; exact hP2.next, fun i hi => by
    rw [ho3 i hi, hp_nil]
    exact hP2.get i hi⟩
  obtain ⟨hso, hcov⟩ := filter_cov hd1
  have hdl : d.length ≤ l.length := by omega
  clear hv1 ho1 hn1 hP2 hv0 hG1 hw1 hd1 hd2 hfe
  rw [← hp_nil (H := G3)]
  rcases hv3 with ⟨rfl, he⟩ | ⟨id, gen, rfl, hid, hg⟩
  · have hd0 : d = [] := by simpa using he
    subst hd0
    have hx := h 0 [] ⟨sep_nil, hcov⟩ (Nat.zero_le _)
    simp (maxSteps := 4000000) (disch := (first | omega | (simp only [set_next, List.length_append, List.length_cons, List.length_nil, List.length_take, List.length_drop, List.length_map, List.length_set, List.length_replicate]; omega) | (simp only [set_next, ne_eq, reduceCtorEq, not_false_eq_true]))) only [go_sem, Nat.reduceLeDiff, Nat.reduceAdd, Nat.reduceSub, Nat.reduceMul, Nat.reduceLT, Int.reduceLT, Int.reduceLE, Int.reduceAdd, Int.reduceSub, Int.reduceMul, Int.reduceToNat, Int.reduceNeg, Int.reduceEq, Nat.reducePow, Int.reducePow, Nat.reduceEqDiff, decide_true, decide_false, reduceIte, reduceCtorEq, Int.reduceBEq, Int.reduceBNe, bne_self_eq_false, Int.cast_ofNat_Int, Bool.not_true, Bool.not_false, IntKind.bits, w_nat, w_lit, w_add, w_addl, w_ladd, w_sub, w_subl, w_lsub, w_mul, w_mull, w_lmul, t_div, t_divl, t_mod, t_modl, i_lt, i_ltl, i_llt, i_le, i_lel, i_lle, i_eq, i_eql, i_leq, Nat.zero_le, d_beq, d_bne, d_bytes, byte_at, Int.toNat_natCast, toNat_lit, decide_eq_true, decide_eq_false, if_pos, if_neg, slA_len, slA_idx, slA_cells, flat_slA, one_slA, cells_slA, map_mid, strV_is, hp_get1, hp_get2, hp_get3, hp_set1, hp_set2, hp_set3, hp_old, hp_sold, set_got, set_set, set_next, set_other, bytesL, bytes_all, List.length_map, aapp_nils, aapp_wr, List.flatMap_cons, List.flatMap_nil, Nat.mul_one]
    refine go_rounds mono 1 ?_
    simp (maxSteps := 4000000) (disch := (first | omega | (simp only [set_next, List.length_append, List.length_cons, List.length_nil, List.length_take, List.length_drop, List.length_map, List.length_set, List.length_replicate]; omega) | (simp only [set_next, ne_eq, reduceCtorEq, not_false_eq_true]))) only [rnds_succ, go_sem, Nat.reduceLeDiff, Nat.reduceAdd, Nat.reduceSub, Nat.reduceMul, Nat.reduceLT, Int.reduceLT, Int.reduceLE, Int.reduceAdd, Int.reduceSub, Int.reduceMul, Int.reduceToNat, Int.reduceNeg, Int.reduceEq, Nat.reducePow, Int.reducePow, Nat.reduceEqDiff, decide_true, decide_false, reduceIte, reduceCtorEq, Int.reduceBEq, Int.reduceBNe, bne_self_eq_false, Int.cast_ofNat_Int, Bool.not_true, Bool.not_false, IntKind.bits, w_nat, w_lit, w_add, w_addl, w_ladd, w_sub, w_subl, w_lsub, w_mul, w_mull, w_lmul, t_div, t_divl, t_mod, t_modl, i_lt, i_ltl, i_llt, i_le, i_lel, i_lle, i_eq, i_eql, i_leq, Nat.zero_le, d_beq, d_bne, d_bytes, byte_at, Int.toNat_natCast, toNat_lit, decide_eq_true, decide_eq_false, if_pos, if_neg, slA_len, slA_idx, slA_cells, flat_slA, one_slA, cells_slA, map_mid, strV_is, hp_get1, hp_get2, hp_get3, hp_set1, hp_set2, hp_set3, hp_old, hp_sold, set_got, set_set, set_next, set_other, bytesL, bytes_all, List.length_map, aapp_nils, aapp_wr, List.flatMap_cons, List.flatMap_nil, Nat.mul_one]
    exact aret_past (past_hp hP3 []) hs .nils hx
  have hlg := G3.lt hg
  have hcell := fun i (hi : i < d.length) => sps_cell d hi
  have hfl2 := flat_length _ _ (sps_len d)
  rw [List.length_map] at hfl2 ⊢
  generalize (d.map spV).flatMap AV.cells = R at *
  simp (maxSteps := 4000000) (disch := (first | omega | (simp only [set_next, List.length_append, List.length_cons, List.length_nil, List.length_take, List.length_drop, List.length_map, List.length_set, List.length_replicate]; omega) | (simp only [set_next, ne_eq, reduceCtorEq, not_false_eq_true]))) only [go_sem, Nat.reduceLeDiff, Nat.reduceAdd, Nat.reduceSub, Nat.reduceMul, Nat.reduceLT, Int.reduceLT, Int.reduceLE, Int.reduceAdd, Int.reduceSub, Int.reduceMul, Int.reduceToNat, Int.reduceNeg, Int.reduceEq, Nat.reducePow, Int.reducePow, Nat.reduceEqDiff, decide_true, decide_false, reduceIte, reduceCtorEq, Int.reduceBEq, Int.reduceBNe, bne_self_eq_false, Int.cast_ofNat_Int, Bool.not_true, Bool.not_false, IntKind.bits, w_nat, w_lit, w_add, w_addl, w_ladd, w_sub, w_subl, w_lsub, w_mul, w_mull, w_lmul, t_div, t_divl, t_mod, t_modl, i_lt, i_ltl, i_llt, i_le, i_lel, i_lle, i_eq, i_eql, i_leq, Nat.zero_le, d_beq, d_bne, d_bytes, byte_at, Int.toNat_natCast, toNat_lit, decide_eq_true, decide_eq_false, if_pos, if_neg, slA_len, slA_idx, slA_cells, flat_slA, one_slA, cells_slA, map_mid, strV_is, hp_get1, hp_get2, hp_get3, hp_set1, hp_set2, hp_set3, hp_old, hp_sold, set_got, set_set, set_next, set_other, bytesL, bytes_all, List.length_map, aapp_nils, aapp_wr, List.flatMap_cons, List.flatMap_nil, Nat.mul_one]
  refine go_loopS mono (σ := AHeap × AV × List (Int × Int) × Nat) (fun z => [(4, z.2.1), (16, .int .i64 (z.2.2.2 : Int))]) (fun z => hp z.1 []) (fun z => Past G3 z.1 ∧ SlAt G3.next z.1 64 2 z.2.1 (z.2.2.1.map spV) ∧ z.2.2.2 ≤ d.length ∧ z.2.2.1.length ≤ z.2.2.2 ∧ MInv (d.take z.2.2.2) z.2.2.1) (fun z => d.length - z.2.2.2) (G3, .nils, [], 0) ?_ rfl ⟨past_refl, slat_nil, Nat.zero_le _, Nat.zero_le _, m_start⟩ (fun z hz J hJ => ?_)
  · (simp only [blurR_nil, blurR_some, blurR_none, blurC_region, blurC_regionN, blurC_fregion, blurT_nil, blurT_cons, blurC_seq, blurC_both, blurC_cond, blurC_block, blurC_loop, blurC_skip, blurC_exit, blurC_ret, tellS_nil, tellS_cons, List.set_cons_zero, List.set_cons_succ, tops_zero, tops_succ]; repeat first | exact forget_nil | apply forget_keep | apply forget_top)
  obtain ⟨G, v, out, i⟩ := z
  obtain ⟨hG, hv, hil, hol, hM⟩ := hz
  simp only at hG hv hil hol hM
  have hgG : G.get id = some (.row 64 gen R) := (hG.get id hlg).trans hg
  have hlG := G.lt hgG
  have hvl := slat_len hv
  rw [List.length_map] at hvl
  simp only [blurR_nil, blurR_some, blurR_none, blurC_region, blurC_regionN, blurC_fregion, blurT_nil, blurT_cons, blurC_seq, blurC_both, blurC_cond, blurC_block, blurC_loop, blurC_skip, blurC_exit, blurC_ret, tellS_nil, tellS_cons, List.set_cons_zero, List.set_cons_succ, tops_zero, tops_succ]
  by_cases d1 : i < d.length
  · have ha := hcell i d1
    have hsx := hso _ (sp_mem d1)
    have hord := sort_ord hd3 d1
    have htk := sp_step d1
    have hJ2 := fun (G2 : AHeap) (v2 : AV) (out2 : List (Int × Int)) p1 (p2 : SlAt G3.next G2 64 2 v2 (out2.map spV)) (p3 : out2.length ≤ i + 1) (p4 : MInv (d.take i ++ [d.getD i (0, 0)]) out2) a' => hJ (G2, v2, out2, i + 1) a' ⟨p1, p2, d1, p3, by show MInv (d.take (i + 1)) out2; rw [htk]; exact p4⟩ (by show d.length - (i + 1) < d.length - i; omega)
    clear hJ
    generalize d.getD i (0, 0) = x at *
    have hxb := someS_b hsx
    have hxs := someS_is.1 hsx
    have happ := fun (G' : AHeap) (hP' : Past G3 G') (hv' : SlAt G3.next G' 64 2 v (out.map spV)) => slat_app (G := G') (b := 16) (ys := [spV x]) hv' hP'.next (sps_len out) (sps_one [x]) (by simp only [List.length_map, List.length_singleton]; omega)
    rcases snoc_or out with rfl | ⟨o, q, rfl⟩
    · have hvl : alenL v = some (.int .i64 0) := hvl
      obtain ⟨v3, G4, hE, hv4, hbs⟩ := happ (hp G [.row 64 0 [.int .i64 x.1, .int .i64 x.2]]) (past_hp hG _) (slat_hp hv _)
      rw [spV_is] at hE
      have hP4 : Past G3 G4 := beside_past hbs (Nat.le_refl _) (past_hp hG _)
      have hm1 : IntKind.i64.wrap (-1) = -1 := rfl
      have hm2 : decide ((-1 : Int) < 0) = true := rfl
      simp (maxSteps := 4000000) (disch := (first | omega | (simp only [set_next, List.length_append, List.length_cons, List.length_nil, List.length_take, List.length_drop, List.length_map, List.length_set, List.length_replicate]; omega) | (simp only [set_next, ne_eq, reduceCtorEq, not_false_eq_true]))) only [hgG, ha, hvl, hE, hm1, hm2, go_sem, Nat.reduceLeDiff, Nat.reduceAdd, Nat.reduceSub, Nat.reduceMul, Nat.reduceLT, Int.reduceLT, Int.reduceLE, Int.reduceAdd, Int.reduceSub, Int.reduceMul, Int.reduceToNat, Int.reduceNeg, Int.reduceEq, Nat.reducePow, Int.reducePow, Nat.reduceEqDiff, decide_true, decide_false, reduceIte, reduceCtorEq, Int.reduceBEq, Int.reduceBNe, bne_self_eq_false, Int.cast_ofNat_Int, Bool.not_true, Bool.not_false, IntKind.bits, w_nat, w_lit, w_add, w_addl, w_ladd, w_sub, w_subl, w_lsub, w_mul, w_mull, w_lmul, t_div, t_divl, t_mod, t_modl, i_lt, i_ltl, i_llt, i_le, i_lel, i_lle, i_eq, i_eql, i_leq, Nat.zero_le, d_beq, d_bne, d_bytes, byte_at, Int.toNat_natCast, toNat_lit, decide_eq_true, decide_eq_false, if_pos, if_neg, slA_len, slA_idx, slA_cells, flat_slA, one_slA, cells_slA, map_mid, strV_is, hp_get1, hp_get2, hp_get3, hp_set1, hp_set2, hp_set3, hp_old, hp_sold, set_got, set_set, set_next, set_other, bytesL, bytes_all, List.length_map, aapp_nils, aapp_wr, List.flatMap_cons, List.flatMap_nil, Nat.mul_one]
      exact hJ2 G4 v3 [x] hP4 hv4 (by simp) (m_first hM hxb) _ (by (simp only [blurR_nil, blurR_some, blurR_none, blurC_region, blurC_regionN, blurC_fregion, blurT_nil, blurT_cons, blurC_seq, blurC_both, blurC_cond, blurC_block, blurC_loop, blurC_skip, blurC_exit, blurC_ret, tellS_nil, tellS_cons, List.set_cons_zero, List.set_cons_succ, tops_zero, tops_succ]; repeat first | exact forget_nil | apply forget_keep | apply forget_top))
    · rcases hv with ⟨_, he⟩ | ⟨id2, gen2, rfl, hid2, hg2⟩
      · simp at he
      rw [sps_snoc] at hg2
      have hRo := flat_length _ _ (sps_len o)
      rw [List.length_map] at hRo
      have hcs : ∀ n : Int, ((o ++ [(q.1, n)]).map spV).flatMap AV.cells = (o.map spV).flatMap AV.cells ++ [.int .i64 q.1, .int .i64 n] := fun n => sps_snoc o (q.1, n)
      have hlen : ((o ++ [q]).map spV).length = o.length + 1 := by rw [List.length_map, List.length_append, List.length_singleton]
      rw [hlen] at happ ⊢
      rw [List.length_append, List.length_singleton] at hol
      generalize (o.map spV).flatMap AV.cells = Ro at *
      have c0 : (Ro ++ [AV.int .i64 q.1, AV.int .i64 q.2])[o.length * 2 + 0]? = some (.int .i64 q.1) := by rw [List.getElem?_append_right (by omega), hRo]; simp
      have c1 : (Ro ++ [AV.int .i64 q.1, AV.int .i64 q.2])[o.length * 2 + 1]? = some (.int .i64 q.2) := by rw [List.getElem?_append_right (by omega), hRo]; simp
      obtain ⟨hqs, hqb, hqo⟩ := sep_last hM.sep
      unfold spB at hqb
      have w1 := wrapI (a := q.1 + q.2) (by omega) (by omega)
      have w2 := wrapI (a := x.1 + x.2) (by omega) (by omega)
      have hl2 := G.lt hg2
      by_cases d2 : q.1 + q.2 < x.1
      · obtain ⟨v3, G4, hE, hv4, hbs⟩ := happ (hp G [.row 64 0 [.int .i64 x.1, .int .i64 x.2]]) (past_hp hG _) (by
          have := slat_hp (G := G) (n0 := G3.next) (e := 64) (sz := 2) (v := .wr id2 gen2 0 (o.length + 1) 2) (xs := (o ++ [q]).map spV) (.inr ⟨id2, gen2, by rw [hlen], hid2, by rw [hg2, hcs]⟩) [.row 64 0 [.int .i64 x.1, .int .i64 x.2]]
          exact this)
        rw [spV_is] at hE
        have hP4 : Past G3 G4 := beside_past hbs (Nat.le_refl _) (past_hp hG _)
        simp (maxSteps := 4000000) (disch := (first | omega | (simp only [set_next, List.length_append, List.length_cons, List.length_nil, List.length_take, List.length_drop, List.length_map, List.length_set, List.length_replicate]; omega) | (simp only [set_next, ne_eq, reduceCtorEq, not_false_eq_true]))) only [Nat.add_sub_cancel, hgG, ha, hg2, c0, c1, w1, d2, hE, go_sem, Nat.reduceLeDiff, Nat.reduceAdd, Nat.reduceSub, Nat.reduceMul, Nat.reduceLT, Int.reduceLT, Int.reduceLE, Int.reduceAdd, Int.reduceSub, Int.reduceMul, Int.reduceToNat, Int.reduceNeg, Int.reduceEq, Nat.reducePow, Int.reducePow, Nat.reduceEqDiff, decide_true, decide_false, reduceIte, reduceCtorEq, Int.reduceBEq, Int.reduceBNe, bne_self_eq_false, Int.cast_ofNat_Int, Bool.not_true, Bool.not_false, IntKind.bits, w_nat, w_lit, w_add, w_addl, w_ladd, w_sub, w_subl, w_lsub, w_mul, w_mull, w_lmul, t_div, t_divl, t_mod, t_modl, i_lt, i_ltl, i_llt, i_le, i_lel, i_lle, i_eq, i_eql, i_leq, Nat.zero_le, d_beq, d_bne, d_bytes, byte_at, Int.toNat_natCast, toNat_lit, decide_eq_true, decide_eq_false, if_pos, if_neg, slA_len, slA_idx, slA_cells, flat_slA, one_slA, cells_slA, map_mid, strV_is, hp_get1, hp_get2, hp_get3, hp_set1, hp_set2, hp_set3, hp_old, hp_sold, set_got, set_set, set_next, set_other, bytesL, bytes_all, List.length_map, aapp_nils, aapp_wr, List.flatMap_cons, List.flatMap_nil, Nat.mul_one]
        exact hJ2 G4 v3 (o ++ [q] ++ [x]) hP4 (by rw [List.map_append]; exact hv4) (by simp; omega) (m_push hM hxb d2) _ (by (simp only [blurR_nil, blurR_some, blurR_none, blurC_region, blurC_regionN, blurC_fregion, blurT_nil, blurT_cons, blurC_seq, blurC_both, blurC_cond, blurC_block, blurC_loop, blurC_skip, blurC_exit, blurC_ret, tellS_nil, tellS_cons, List.set_cons_zero, List.set_cons_succ, tops_zero, tops_succ]; repeat first | exact forget_nil | apply forget_keep | apply forget_top))
      · simp (maxSteps := 4000000) (disch := (first | omega | (simp only [set_next, List.length_append, List.length_cons, List.length_nil, List.length_take, List.length_drop, List.length_map, List.length_set, List.length_replicate]; omega) | (simp only [set_next, ne_eq, reduceCtorEq, not_false_eq_true]))) only [Nat.add_sub_cancel, hgG, ha, hg2, c0, c1, w1, w2, d2, go_sem, Nat.reduceLeDiff, Nat.reduceAdd, Nat.reduceSub, Nat.reduceMul, Nat.reduceLT, Int.reduceLT, Int.reduceLE, Int.reduceAdd, Int.reduceSub, Int.reduceMul, Int.reduceToNat, Int.reduceNeg, Int.reduceEq, Nat.reducePow, Int.reducePow, Nat.reduceEqDiff, decide_true, decide_false, reduceIte, reduceCtorEq, Int.reduceBEq, Int.reduceBNe, bne_self_eq_false, Int.cast_ofNat_Int, Bool.not_true, Bool.not_false, IntKind.bits, w_nat, w_lit, w_add, w_addl, w_ladd, w_sub, w_subl, w_lsub, w_mul, w_mull, w_lmul, t_div, t_divl, t_mod, t_modl, i_lt, i_ltl, i_llt, i_le, i_lel, i_lle, i_eq, i_eql, i_leq, Nat.zero_le, d_beq, d_bne, d_bytes, byte_at, Int.toNat_natCast, toNat_lit, decide_eq_true, decide_eq_false, if_pos, if_neg, slA_len, slA_idx, slA_cells, flat_slA, one_slA, cells_slA, map_mid, strV_is, hp_get1, hp_get2, hp_get3, hp_set1, hp_set2, hp_set3, hp_old, hp_sold, set_got, set_set, set_next, set_other, bytesL, bytes_all, List.length_map, aapp_nils, aapp_wr, List.flatMap_cons, List.flatMap_nil, Nat.mul_one]
        have hm : (if q.1 + q.2 < x.1 + x.2 then x.1 + x.2 else q.1 + q.2) = max (q.1 + q.2) (x.1 + x.2) := by
          by_cases hc : q.1 + q.2 < x.1 + x.2
          · rw [if_pos hc]
            omega
          · rw [if_neg hc]
            omega
        have w3 := wrapI (a := max (q.1 + q.2) (x.1 + x.2) - q.1) (by omega) (by omega)
        have hrs := row_set (a := .int .i64 q.1) (b := .int .i64 q.2) (n := .int .i64 (max (q.1 + q.2) (x.1 + x.2) - q.1)) hRo
        rw [hm, w3, hrs]
        have hJ3 := hJ2 (hp (G.set id2 (.row 64 gen2 (Ro ++ [.int .i64 q.1, .int .i64 (max (q.1 + q.2) (x.1 + x.2) - q.1)]))) [.row 64 0 [.int .i64 x.1, .int .i64 x.2]]) (.wr id2 gen2 0 (o.length + 1) 2) (o ++ [(q.1, max (q.1 + q.2) (x.1 + x.2) - q.1)]) (past_hp (past_set hG hid2 _) _) (slat_hp (.inr ⟨id2, gen2, by rw [List.length_map, List.length_append, List.length_singleton], hid2, by rw [set_got hl2, hcs]⟩) _) (by rw [List.length_append, List.length_singleton]; omega) (m_join hM hxb hord (by omega))
        rw [hp_nil] at hJ3
        exact hJ3 _ (by (simp only [blurR_nil, blurR_some, blurR_none, blurC_region, blurC_regionN, blurC_fregion, blurT_nil, blurT_cons, blurC_seq, blurC_both, blurC_cond, blurC_block, blurC_loop, blurC_skip, blurC_exit, blurC_ret, tellS_nil, tellS_cons, List.set_cons_zero, List.set_cons_succ, tops_zero, tops_succ]; repeat first | exact forget_nil | apply forget_keep | apply forget_top))
  · have hi : i = d.length := by omega
    rw [hi, List.take_length] at hM
    simp (maxSteps := 4000000) (disch := (first | omega | (simp only [set_next, List.length_append, List.length_cons, List.length_nil, List.length_take, List.length_drop, List.length_map, List.length_set, List.length_replicate]; omega) | (simp only [set_next, ne_eq, reduceCtorEq, not_false_eq_true]))) only [go_sem, Nat.reduceLeDiff, Nat.reduceAdd, Nat.reduceSub, Nat.reduceMul, Nat.reduceLT, Int.reduceLT, Int.reduceLE, Int.reduceAdd, Int.reduceSub, Int.reduceMul, Int.reduceToNat, Int.reduceNeg, Int.reduceEq, Nat.reducePow, Int.reducePow, Nat.reduceEqDiff, decide_true, decide_false, reduceIte, reduceCtorEq, Int.reduceBEq, Int.reduceBNe, bne_self_eq_false, Int.cast_ofNat_Int, Bool.not_true, Bool.not_false, IntKind.bits, w_nat, w_lit, w_add, w_addl, w_ladd, w_sub, w_subl, w_lsub, w_mul, w_mull, w_lmul, t_div, t_divl, t_mod, t_modl, i_lt, i_ltl, i_llt, i_le, i_lel, i_lle, i_eq, i_eql, i_leq, Nat.zero_le, d_beq, d_bne, d_bytes, byte_at, Int.toNat_natCast, toNat_lit, decide_eq_true, decide_eq_false, if_pos, if_neg, slA_len, slA_idx, slA_cells, flat_slA, one_slA, cells_slA, map_mid, strV_is, hp_get1, hp_get2, hp_get3, hp_set1, hp_set2, hp_set3, hp_old, hp_sold, set_got, set_set, set_next, set_other, bytesL, bytes_all, List.length_map, aapp_nils, aapp_wr, List.flatMap_cons, List.flatMap_nil, Nat.mul_one]
    rw [hp_nil]
    exact slat_ret (slat_low hv hP3.next) (sps_len _) (past_trans hP3 hG) hs (sps_u _ _) (fun k => h k out ⟨hM.sep, fun b => (hM.cov b).trans (hcov b)⟩ (by omega))
end
end Go.Proofs.Ytdknpnmdjjmapaa.AL

