/- Configurations told: the program is awake; the law that each answers as the document does. -/
import Derived.Test.YtfiihgaohihppaaDoorQConfBackALConf4
import Derived.Test.YtfiihgaohihppaaDoorQConfBackALOpenC
set_option linter.unusedSimpArgs false
set_option linter.unusedVariables false
set_option maxRecDepth 100000
set_option maxHeartbeats 16000000
namespace Go.Proofs.YtfiihgaohihppaaDoor.AL
open Go Go.Proofs
attribute [local go_sem] go_seq go_skip go_region go_regionN go_fregion rgF_some go_cond go_block go_exit go_ret nxt_nil nxt_code nxt_blk nxt_cut leave_nil leave_code leave_cut leave_blk rtn_nil rtn_code rtn_blk rtn_cut cnd_t cnd_f rgn_nil rgY_some rgY_none rgH_some rgP_some retTo_is rgV_func grd_und grd_tt grd_ff grd_tf grd_ft rgn_q rgn_alloc rgn_box rgn_store rgn_lit rgn_litw litCells_nil litCells_cons rgn_app rgn_copy rgn_mk rgn_s2b rgn_call rgn_callv rgn_stop rgn_slice3 aslice3 rgn_slice3l aslice3l rgn_appz rgn_clear acap rgn_put rgn_mkmap rgn_lookup rgn_mapup alookup_nilm alookup_map amapup_map afound_ok afound_no rgn_c rgn_cv qclV_func aloadr rgn_guard post_ret post_normal retY_some ares aresL ares1 AX.ev aput List.getD_cons_zero List.getD_cons_succ List.set_cons_zero List.set_cons_succ List.map_cons List.map_nil aq abin aint astr abeq aconv asame aextract alenS alenL_nils alenL_emp alenL_imm alenL_wr alenL_wc aun apart aload afieldAddr afield aidxSl_wr aidxSl_wc aidxSl_imm aidxPt aidxStr aidxArr abound asliceStr asliceSl asliceArr abest anonil afill astore acells_nils acells_emp acells_imm acells_wr acells_wc acells_str acopy litAll amk as2b anil nilOf aseq aeqs aeqv fits fit1 hp_next hp_push hp_get hp_set List.length_cons List.length_nil List.getElem?_cons_zero List.getElem?_cons_succ List.cons_append List.nil_append List.append_nil List.take_succ_cons List.take_zero List.drop_succ_cons List.drop_zero List.all_cons List.all_nil Option.map_some Option.some.injEq Bool.and_true Bool.true_and Bool.false_eq_true if_true if_false ite_true ite_false Bool.and_self true_and and_true and_self Nat.zero_add Nat.le_refl Int.toNat_natCast beq_self_eq_true eq_self tops_zero tops_succ Int.natCast_nonneg List.take_nil List.drop_nil Option.map_none flat_bool one_bool cells_bool flat_int one_int cells_int flat_str one_str cells_str flat_nilp one_nilp cells_nilp flat_ptr one_ptr cells_ptr flat_nils one_nils cells_nils flat_imm one_imm cells_imm flat_wr one_wr cells_wr flat_wc one_wc cells_wc flat_func one_func cells_func flat_nilf one_nilf cells_nilf flat_map one_map cells_map flat_nilm one_nilm cells_nilm flat_iface one_iface cells_iface flat_nili one_nili cells_nili flat_rd one_rd cells_rd flat_emp one_emp cells_emp flat_byteV one_byteV cells_byteV flat_agg cells_agg one_agg B_size B_list B_ext B_toList B_app List.take_length Int.le_refl
def cw : Cf := ⟨[99, 111, 110, 102, 45, 49], 2, [[109], [110]], [107], [100], [116], 5, 1⟩
def cu : Cf := ⟨[117], 0, [], [], [], [], 0, 0⟩
theorem cw_V : cw.V = .agg [.str (B [99, 111, 110, 102, 45, 49]), .imm 1 [.str (B [109]), .str (B [110])], .str (B [107]), .str (B [100]), .str (B [116]), .int .i64 5, .int .i64 1] := rfl
theorem cu_ok : CfOk cu := by unfold CfOk cu; decide
theorem cw_ok : CfOk cw := by unfold CfOk cw; decide
theorem aw27a : cfew cw = true := by kernel_rfl
theorem aw27b : okC (nodeC cw) = true := by kernel_rfl
theorem aw27c (k : Nat) : cfC k (nodeC cw) = cw.as k := by
  unfold cfC
  have e1 : (asTexts (valD (nodeC cw) sC)).getD [] = [[109], [110]] := by kernel_rfl
  have e2 : (tx (nodeC cw) sK).getD [] = [107] := by kernel_rfl
  have e3 : (tx (nodeC cw) sD).getD [] = [100] := by kernel_rfl
  have e4 : (tx (nodeC cw) sF).getD [] = [116] := by kernel_rfl
  have e5 : (numO (valD (nodeC cw) sV)).getD 0 = 5 := by kernel_rfl
  have e6 : (numO (valD (nodeC cw) sR)).getD 0 = 1 := by kernel_rfl
  rw [e1, e2, e3, e4, e5, e6]
  rfl
theorem aw27d : chooseC [cu, cw] [117] [110] = (cw, 0) := by kernel_rfl
theorem aw27e : chooseC [cw] [99, 111, 110, 102, 45, 49] [113] = (cf0, 11) := by kernel_rfl
theorem nodeC_ok {c : Cf} (h : cfew c = true) : TrOk (nodeC c) := by
  unfold cfew at h
  simp only [Bool.and_eq_true, decide_eq_true_eq] at h
  obtain ⟨⟨⟨⟨⟨d1, d2⟩, d3⟩, d4⟩, d5⟩, d6⟩ := h
  have hb : ∀ s ∈ c.compat, s.length ≤ 100 := fun s hs => of_decide_eq_true (List.all_eq_true.1 d6 s hs)
  have ht := textsB_len c.compat hb
  have hm : c.compat.length * (100 + 1) ≤ 10 * (100 + 1) := Nat.mul_le_mul_right _ d1
  have hx : ∀ s : List UInt8, s.length ≤ 100 → (textB s).length ≤ 101 := fun s hs => by
    unfold textB
    have := cut1_le (c := 0) (l := s)
    rw [List.length_append, List.length_singleton]
    omega
  refine .mk _ 2 _ 0 _ (by omega) (by simp) (fun p hp => ?_) (by decide) (fun k hk => by cases hk)
  have h4 : ∀ n : Int, (four n).length = 4 := fun n => rfl
  simp only [List.mem_cons, List.mem_nil_iff, or_false] at hp
  rcases hp with rfl | rfl | rfl | rfl | rfl | rfl
  · exact ⟨by show sC.length ≤ _; decide, by show (textsB _).length ≤ _; omega⟩
  · exact ⟨by show sK.length ≤ _; decide, by have := hx _ d3; show (textB _).length ≤ _; omega⟩
  · exact ⟨by show sD.length ≤ _; decide, by have := hx _ d4; show (textB _).length ≤ _; omega⟩
  · exact ⟨by show sF.length ≤ _; decide, by have := hx _ d5; show (textB _).length ≤ _; omega⟩
  · exact ⟨by show sV.length ≤ _; decide, by show (four _).length ≤ _; rw [h4]; decide⟩
  · exact ⟨by show sR.length ≤ _; decide, by show (four _).length ≤ _; rw [h4]; decide⟩
theorem node_vals {c : Cf} (h : cfew c = true) (n : List UInt8) : (valD (nodeC c) n).length ≤ 100000 := by
  unfold cfew at h
  simp only [Bool.and_eq_true, decide_eq_true_eq] at h
  obtain ⟨⟨⟨⟨⟨d1, d2⟩, d3⟩, d4⟩, d5⟩, d6⟩ := h
  have hb : ∀ s ∈ c.compat, s.length ≤ 100 := fun s hs => of_decide_eq_true (List.all_eq_true.1 d6 s hs)
  have ht := textsB_len c.compat hb
  have hm : c.compat.length * (100 + 1) ≤ 10 * (100 + 1) := Nat.mul_le_mul_right _ d1
  have hx : ∀ s : List UInt8, s.length ≤ 100 → (textB s).length ≤ 101 := fun s hs => by
    unfold textB
    have := cut1_le (c := 0) (l := s)
    rw [List.length_append, List.length_singleton]
    omega
  have h4 : ∀ n : Int, (four n).length = 4 := fun n => rfl
  unfold valD
  cases hv : valT (nodeC c) n with
  | none => exact Nat.zero_le _
  | some v =>
    unfold valT at hv
    obtain ⟨p, hp, rfl⟩ := Option.map_eq_some_iff.1 hv
    have hp := List.mem_of_find?_eq_some hp
    have hp : p ∈ [(sC, textsB c.compat), (sK, textB c.kernel), (sD, textB c.disk), (sF, textB c.tree), (sV, four c.ver), (sR, four c.roll)] := hp
    simp only [List.mem_cons, List.mem_nil_iff, or_false] at hp
    rcases hp with rfl | rfl | rfl | rfl | rfl | rfl
    · show (textsB _).length ≤ _; omega
    · have := hx _ d3; show (textB _).length ≤ _; omega
    · have := hx _ d4; show (textB _).length ≤ _; omega
    · have := hx _ d5; show (textB _).length ≤ _; omega
    · show (four _).length ≤ _; rw [h4]; decide
    · show (four _).length ≤ _; rw [h4]; decide
section
variable {H : AHeap} {K : AV → AHeap → Prop}
theorem awake27_a (h : K (.bool true) H) : (ACalls Tryd.prog) 31 [] H K := by
  refine acalls_go mo t31 (fun hs hu => ?_)
  simp only [c31, go_sem, Nat.reduceLeDiff, Nat.reduceAdd, Nat.reduceSub, Nat.reduceMul, Nat.reduceLT, Int.reduceLT, Int.reduceLE, Int.reduceAdd, Int.reduceSub, Int.reduceMul, Int.reduceToNat, Int.reduceNeg, Int.reduceEq, Nat.reducePow, Int.reducePow, Nat.reduceEqDiff, decide_true, decide_false, reduceIte, reduceCtorEq, Int.reduceBEq, Int.reduceBNe, bne_self_eq_false, Int.cast_ofNat_Int, Bool.not_true, Bool.not_false, IntKind.bits]
  rw [← cw_V]
  refine Node_a aw27a ?_
  simp (maxSteps := 4000000) (disch := (first | omega | (simp only [set_next, List.length_append, List.length_cons, List.length_nil, List.length_take, List.length_drop, List.length_map, List.length_set, List.length_replicate]; omega) | (simp only [set_next, ne_eq, reduceCtorEq, not_false_eq_true]))) only [go_sem, Nat.reduceLeDiff, Nat.reduceAdd, Nat.reduceSub, Nat.reduceMul, Nat.reduceLT, Int.reduceLT, Int.reduceLE, Int.reduceAdd, Int.reduceSub, Int.reduceMul, Int.reduceToNat, Int.reduceNeg, Int.reduceEq, Nat.reducePow, Int.reducePow, Nat.reduceEqDiff, decide_true, decide_false, reduceIte, reduceCtorEq, Int.reduceBEq, Int.reduceBNe, bne_self_eq_false, Int.cast_ofNat_Int, Bool.not_true, Bool.not_false, IntKind.bits, w_nat, w_lit, w_add, w_addl, w_ladd, w_sub, w_subl, w_lsub, w_mul, w_mull, w_lmul, t_div, t_divl, t_mod, t_modl, i_lt, i_ltl, i_llt, i_le, i_lel, i_lle, i_eq, i_eql, i_leq, Nat.zero_le, d_beq, d_bne, d_bytes, byte_at, Int.toNat_natCast, toNat_lit, decide_eq_true, decide_eq_false, if_pos, if_neg, slA_len, slA_idx, slA_cells, flat_slA, one_slA, cells_slA, map_mid, strV_is, hp_get1, hp_get2, hp_get3, hp_set1, hp_set2, hp_set3, hp_old, hp_sold, set_got, set_set, set_next, set_other, bytesL, bytes_all, List.length_map, aapp_nils, aapp_wr, List.flatMap_cons, List.flatMap_nil, Nat.mul_one]
  refine Of_a (nodeC_ok aw27a) (node_vals aw27a) (fun k => ?_)
  unfold ofC
  rw [if_pos aw27b, aw27c]
  have e1 : cfU (cw.as k) 0 = .tup [.agg [.str (B [99, 111, 110, 102, 45, 49]), slA k 1 ([[109], [110]].map strV), .str (B [107]), .str (B [100]), .str (B [116]), .int .i64 5, .int .i64 1], .int .i64 0] := rfl
  rw [e1]
  simp (maxSteps := 4000000) (disch := (first | omega | (simp only [set_next, List.length_append, List.length_cons, List.length_nil, List.length_take, List.length_drop, List.length_map, List.length_set, List.length_replicate]; omega) | (simp only [set_next, ne_eq, reduceCtorEq, not_false_eq_true]))) only [go_sem, Nat.reduceLeDiff, Nat.reduceAdd, Nat.reduceSub, Nat.reduceMul, Nat.reduceLT, Int.reduceLT, Int.reduceLE, Int.reduceAdd, Int.reduceSub, Int.reduceMul, Int.reduceToNat, Int.reduceNeg, Int.reduceEq, Nat.reducePow, Int.reducePow, Nat.reduceEqDiff, decide_true, decide_false, reduceIte, reduceCtorEq, Int.reduceBEq, Int.reduceBNe, bne_self_eq_false, Int.cast_ofNat_Int, Bool.not_true, Bool.not_false, IntKind.bits, w_nat, w_lit, w_add, w_addl, w_ladd, w_sub, w_subl, w_lsub, w_mul, w_mull, w_lmul, t_div, t_divl, t_mod, t_modl, i_lt, i_ltl, i_llt, i_le, i_lel, i_lle, i_eq, i_eql, i_leq, Nat.zero_le, d_beq, d_bne, d_bytes, byte_at, Int.toNat_natCast, toNat_lit, decide_eq_true, decide_eq_false, if_pos, if_neg, slA_len, slA_idx, slA_cells, flat_slA, one_slA, cells_slA, map_mid, strV_is, hp_get1, hp_get2, hp_get3, hp_set1, hp_set2, hp_set3, hp_old, hp_sold, set_got, set_set, set_next, set_other, bytesL, bytes_all, List.length_map, aapp_nils, aapp_wr, List.flatMap_cons, List.flatMap_nil, Nat.mul_one]
  refine Choose_a (k := 2) (l := [cu, cw]) (by decide) (fun c hc => by simp only [List.mem_cons, List.mem_nil_iff, or_false] at hc; rcases hc with rfl | rfl; exact cu_ok; exact cw_ok) ?_
  rw [aw27d]
  have e2 : cfU (cw, (0 : Int)).1 (cw, (0 : Int)).2 = .tup [.agg [.str (B [99, 111, 110, 102, 45, 49]), .imm 1 [.str (B [109]), .str (B [110])], .str (B [107]), .str (B [100]), .str (B [116]), .int .i64 5, .int .i64 1], .int .i64 0] := rfl
  rw [e2]
  simp (maxSteps := 4000000) (disch := (first | omega | (simp only [set_next, List.length_append, List.length_cons, List.length_nil, List.length_take, List.length_drop, List.length_map, List.length_set, List.length_replicate]; omega) | (simp only [set_next, ne_eq, reduceCtorEq, not_false_eq_true]))) only [go_sem, Nat.reduceLeDiff, Nat.reduceAdd, Nat.reduceSub, Nat.reduceMul, Nat.reduceLT, Int.reduceLT, Int.reduceLE, Int.reduceAdd, Int.reduceSub, Int.reduceMul, Int.reduceToNat, Int.reduceNeg, Int.reduceEq, Nat.reducePow, Int.reducePow, Nat.reduceEqDiff, decide_true, decide_false, reduceIte, reduceCtorEq, Int.reduceBEq, Int.reduceBNe, bne_self_eq_false, Int.cast_ofNat_Int, Bool.not_true, Bool.not_false, IntKind.bits, w_nat, w_lit, w_add, w_addl, w_ladd, w_sub, w_subl, w_lsub, w_mul, w_mull, w_lmul, t_div, t_divl, t_mod, t_modl, i_lt, i_ltl, i_llt, i_le, i_lel, i_lle, i_eq, i_eql, i_leq, Nat.zero_le, d_beq, d_bne, d_bytes, byte_at, Int.toNat_natCast, toNat_lit, decide_eq_true, decide_eq_false, if_pos, if_neg, slA_len, slA_idx, slA_cells, flat_slA, one_slA, cells_slA, map_mid, strV_is, hp_get1, hp_get2, hp_get3, hp_set1, hp_set2, hp_set3, hp_old, hp_sold, set_got, set_set, set_next, set_other, bytesL, bytes_all, List.length_map, aapp_nils, aapp_wr, List.flatMap_cons, List.flatMap_nil, Nat.mul_one]
  refine Choose_a (k := 2) (l := [cw]) (by decide) (fun c hc => by rw [List.mem_singleton] at hc; rw [hc]; exact cw_ok) ?_
  rw [aw27e]
  have e3 : cfU (cf0, (11 : Int)).1 (cf0, (11 : Int)).2 = .tup [.agg [.str (B []), .nils, .str (B []), .str (B []), .str (B []), .int .i64 0, .int .i64 0], .int .i64 11] := rfl
  rw [e3]
  simp (maxSteps := 4000000) (disch := (first | omega | (simp only [set_next, List.length_append, List.length_cons, List.length_nil, List.length_take, List.length_drop, List.length_map, List.length_set, List.length_replicate]; omega) | (simp only [set_next, ne_eq, reduceCtorEq, not_false_eq_true]))) only [go_sem, Nat.reduceLeDiff, Nat.reduceAdd, Nat.reduceSub, Nat.reduceMul, Nat.reduceLT, Int.reduceLT, Int.reduceLE, Int.reduceAdd, Int.reduceSub, Int.reduceMul, Int.reduceToNat, Int.reduceNeg, Int.reduceEq, Nat.reducePow, Int.reducePow, Nat.reduceEqDiff, decide_true, decide_false, reduceIte, reduceCtorEq, Int.reduceBEq, Int.reduceBNe, bne_self_eq_false, Int.cast_ofNat_Int, Bool.not_true, Bool.not_false, IntKind.bits, w_nat, w_lit, w_add, w_addl, w_ladd, w_sub, w_subl, w_lsub, w_mul, w_mull, w_lmul, t_div, t_divl, t_mod, t_modl, i_lt, i_ltl, i_llt, i_le, i_lel, i_lle, i_eq, i_eql, i_leq, Nat.zero_le, d_beq, d_bne, d_bytes, byte_at, Int.toNat_natCast, toNat_lit, decide_eq_true, decide_eq_false, if_pos, if_neg, slA_len, slA_idx, slA_cells, flat_slA, one_slA, cells_slA, map_mid, strV_is, hp_get1, hp_get2, hp_get3, hp_set1, hp_set2, hp_set3, hp_old, hp_sold, set_got, set_set, set_next, set_other, bytesL, bytes_all, List.length_map, aapp_nils, aapp_wr, List.flatMap_cons, List.flatMap_nil, Nat.mul_one]
  refine same27_a (c := cw) (k := k) cw_ok ?_
  simp (maxSteps := 4000000) (disch := (first | omega | (simp only [set_next, List.length_append, List.length_cons, List.length_nil, List.length_take, List.length_drop, List.length_map, List.length_set, List.length_replicate]; omega) | (simp only [set_next, ne_eq, reduceCtorEq, not_false_eq_true]))) only [go_sem, Nat.reduceLeDiff, Nat.reduceAdd, Nat.reduceSub, Nat.reduceMul, Nat.reduceLT, Int.reduceLT, Int.reduceLE, Int.reduceAdd, Int.reduceSub, Int.reduceMul, Int.reduceToNat, Int.reduceNeg, Int.reduceEq, Nat.reducePow, Int.reducePow, Nat.reduceEqDiff, decide_true, decide_false, reduceIte, reduceCtorEq, Int.reduceBEq, Int.reduceBNe, bne_self_eq_false, Int.cast_ofNat_Int, Bool.not_true, Bool.not_false, IntKind.bits, w_nat, w_lit, w_add, w_addl, w_ladd, w_sub, w_subl, w_lsub, w_mul, w_mull, w_lmul, t_div, t_divl, t_mod, t_modl, i_lt, i_ltl, i_llt, i_le, i_lel, i_lle, i_eq, i_eql, i_leq, Nat.zero_le, d_beq, d_bne, d_bytes, byte_at, Int.toNat_natCast, toNat_lit, decide_eq_true, decide_eq_false, if_pos, if_neg, slA_len, slA_idx, slA_cells, flat_slA, one_slA, cells_slA, map_mid, strV_is, hp_get1, hp_get2, hp_get3, hp_set1, hp_set2, hp_set3, hp_old, hp_sold, set_got, set_set, set_next, set_other, bytesL, bytes_all, List.length_map, aapp_nils, aapp_wr, List.flatMap_cons, List.flatMap_nil, Nat.mul_one]
  refine For_a (c := cw) cw_ok ?_
  have e4 : cw.compat.contains [109] = true := by kernel_rfl
  rw [e4]
  simp (maxSteps := 4000000) (disch := (first | omega | (simp only [set_next, List.length_append, List.length_cons, List.length_nil, List.length_take, List.length_drop, List.length_map, List.length_set, List.length_replicate]; omega) | (simp only [set_next, ne_eq, reduceCtorEq, not_false_eq_true]))) only [go_sem, Nat.reduceLeDiff, Nat.reduceAdd, Nat.reduceSub, Nat.reduceMul, Nat.reduceLT, Int.reduceLT, Int.reduceLE, Int.reduceAdd, Int.reduceSub, Int.reduceMul, Int.reduceToNat, Int.reduceNeg, Int.reduceEq, Nat.reducePow, Int.reducePow, Nat.reduceEqDiff, decide_true, decide_false, reduceIte, reduceCtorEq, Int.reduceBEq, Int.reduceBNe, bne_self_eq_false, Int.cast_ofNat_Int, Bool.not_true, Bool.not_false, IntKind.bits, w_nat, w_lit, w_add, w_addl, w_ladd, w_sub, w_subl, w_lsub, w_mul, w_mull, w_lmul, t_div, t_divl, t_mod, t_modl, i_lt, i_ltl, i_llt, i_le, i_lel, i_lle, i_eq, i_eql, i_leq, Nat.zero_le, d_beq, d_bne, d_bytes, byte_at, Int.toNat_natCast, toNat_lit, decide_eq_true, decide_eq_false, if_pos, if_neg, slA_len, slA_idx, slA_cells, flat_slA, one_slA, cells_slA, map_mid, strV_is, hp_get1, hp_get2, hp_get3, hp_set1, hp_set2, hp_set3, hp_old, hp_sold, set_got, set_set, set_next, set_other, bytesL, bytes_all, List.length_map, aapp_nils, aapp_wr, List.flatMap_cons, List.flatMap_nil, Nat.mul_one]
  refine For_a (c := cw) cw_ok ?_
  have e5 : cw.compat.contains [113] = false := by kernel_rfl
  rw [e5]
  simp (maxSteps := 4000000) (disch := (first | omega | (simp only [set_next, List.length_append, List.length_cons, List.length_nil, List.length_take, List.length_drop, List.length_map, List.length_set, List.length_replicate]; omega) | (simp only [set_next, ne_eq, reduceCtorEq, not_false_eq_true]))) only [go_sem, Nat.reduceLeDiff, Nat.reduceAdd, Nat.reduceSub, Nat.reduceMul, Nat.reduceLT, Int.reduceLT, Int.reduceLE, Int.reduceAdd, Int.reduceSub, Int.reduceMul, Int.reduceToNat, Int.reduceNeg, Int.reduceEq, Nat.reducePow, Int.reducePow, Nat.reduceEqDiff, decide_true, decide_false, reduceIte, reduceCtorEq, Int.reduceBEq, Int.reduceBNe, bne_self_eq_false, Int.cast_ofNat_Int, Bool.not_true, Bool.not_false, IntKind.bits, w_nat, w_lit, w_add, w_addl, w_ladd, w_sub, w_subl, w_lsub, w_mul, w_mull, w_lmul, t_div, t_divl, t_mod, t_modl, i_lt, i_ltl, i_llt, i_le, i_lel, i_lle, i_eq, i_eql, i_leq, Nat.zero_le, d_beq, d_bne, d_bytes, byte_at, Int.toNat_natCast, toNat_lit, decide_eq_true, decide_eq_false, if_pos, if_neg, slA_len, slA_idx, slA_cells, flat_slA, one_slA, cells_slA, map_mid, strV_is, hp_get1, hp_get2, hp_get3, hp_set1, hp_set2, hp_set3, hp_old, hp_sold, set_got, set_set, set_next, set_other, bytesL, bytes_all, List.length_map, aapp_nils, aapp_wr, List.flatMap_cons, List.flatMap_nil, Nat.mul_one]
  exact aret_plain hs (by simp only [u_top, u_bool, u_int, u_str, u_nilp, u_nils, u_nilf, u_nilm, u_nili, u_emp, u_byteV, u_ptr, u_wr, u_wc, u_agg, u_tup, u_rd, u_imm, u_func, u_nil, u_cons, u_app, uc_nil, uc_cons, uc_app, u_bytes, uc_bytes, u_ints, uc_ints, cells_bool, cells_int, cells_str, cells_agg, cells_ptr, cells_nils, cells_imm, cells_wr, cells_wc, cells_nilp, cells_nilf, cells_nilm, cells_rd, cells_emp, cells_byteV, cells_func, and_self, and_true, true_and, u_slA, uc_strs, cells_slA, strV_is]) (h)
theorem cfU_is (c : Cf) (e : Int) : cfU c e = .tup [.agg [.str (B c.name), slA c.ck 1 (c.compat.map strV), .str (B c.kernel), .str (B c.disk), .str (B c.tree), .int .i64 c.ver, .int .i64 c.roll], .int .i64 e] := rfl
theorem ofC_is (k : Nat) (t : Tr) : ∃ c e, ofC k t = cfU c e ∧ (∀ k2, ∃ k3, ofC k2 t = cfU (c.as k3) e) ∧ c.compat.length ≤ max 0 ((asTexts (valD t sC)).getD []).length := by
  unfold ofC
  by_cases h : okC t = true
  · rw [if_pos h]
    exact ⟨_, _, rfl, fun k2 => ⟨k2, by rw [if_pos h]; rfl⟩, Nat.le_max_right _ _⟩
  · rw [if_neg h]
    exact ⟨_, _, rfl, fun k2 => ⟨0, by rw [if_neg h]; rfl⟩, Nat.zero_le _⟩
theorem chooseC_ok {l : List Cf} (ho : ∀ c ∈ l, CfOk c) (u m : List UInt8) : CfOk (chooseC l u m).1 := by
  have h0 : CfOk cf0 := by unfold CfOk cf0; decide
  unfold chooseC
  split
  · exact h0
  · rename_i c hc
    split
    · exact ho c (List.mem_of_find?_eq_some hc)
    · split
      · exact h0
      · rename_i c2 hc2
        exact ho c2 (List.mem_of_find?_eq_some hc2)
theorem few27_all {l : List Cf} (h : few27 l = true) : l.length ≤ 10 ∧ ∀ c ∈ l, cfew c = true := by
  unfold few27 at h
  rw [Bool.and_eq_true] at h
  have hl := of_decide_eq_true h.2
  have h2 := h.1
  rw [List.take_of_length_le hl] at h2
  exact ⟨hl, fun x hx => List.all_eq_true.1 h2 x hx⟩
end
end Go.Proofs.YtfiihgaohihppaaDoor.AL

