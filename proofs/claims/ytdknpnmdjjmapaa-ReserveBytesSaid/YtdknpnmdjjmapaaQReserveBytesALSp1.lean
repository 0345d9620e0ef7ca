/- Spans in slices: copied, found, taken out. -/
import Derived.Test.YtdknpnmdjjmapaaQReserveBytesALSpIns
import Derived.Test.YtdknpnmdjjmapaaQReserveBytesALSort
set_option linter.unusedSimpArgs false
set_option linter.unusedVariables false
set_option maxRecDepth 100000
set_option maxHeartbeats 16000000
namespace Go.Proofs.Ytdknpnmdjjmapaa.AL
open Go Go.Proofs
attribute [local go_sem] go_seq go_skip go_region go_regionN go_fregion rgF_some go_cond go_block go_exit go_ret nxt_nil nxt_code nxt_blk nxt_cut leave_nil leave_code leave_cut leave_blk rtn_nil rtn_code rtn_blk rtn_cut cnd_t cnd_f rgn_nil rgY_some rgY_none rgH_some rgP_some retTo_is rgV_func grd_und grd_tt grd_ff grd_tf grd_ft rgn_q rgn_alloc rgn_box rgn_store rgn_lit rgn_litw litCells_nil litCells_cons rgn_app rgn_copy rgn_mk rgn_s2b rgn_call rgn_callv rgn_stop rgn_slice3 aslice3 rgn_slice3l aslice3l rgn_appz rgn_clear rgn_range rgn_next arange acap rgn_put rgn_mkmap rgn_lookup rgn_mapup alookup_nilm alookup_map amapup_map afound_ok afound_no rgn_c rgn_cv qclV_func aloadr rgn_guard post_ret post_normal retY_some ares aresL ares1 AX.ev aput List.getD_cons_zero List.getD_cons_succ List.set_cons_zero List.set_cons_succ List.map_cons List.map_nil aq abin aint astr abeq aconv asame aextract alenS alenL_nils alenL_emp alenL_imm alenL_wr alenL_wc aun apart aload afieldAddr afield aidxSl_wr aidxSl_wc aidxSl_imm aidxPt aidxStr aidxArr abound asliceStr asliceSl asliceArr abest anonil afill astore acells_nils acells_emp acells_imm acells_wr acells_wc acells_str acopy litAll amk as2b anil nilOf aseq aeqs aeqv fits fit1 hp_next hp_push hp_get hp_set List.length_cons List.length_nil List.getElem?_cons_zero List.getElem?_cons_succ List.cons_append List.nil_append List.append_nil List.take_succ_cons List.take_zero List.drop_succ_cons List.drop_zero List.all_cons List.all_nil Option.map_some Option.some.injEq Bool.and_true Bool.true_and Bool.false_eq_true if_true if_false ite_true ite_false Bool.and_self true_and and_true and_self Nat.zero_add Nat.le_refl Int.toNat_natCast beq_self_eq_true eq_self tops_zero tops_succ Int.natCast_nonneg List.take_nil List.drop_nil Option.map_none flat_bool one_bool cells_bool flat_int one_int cells_int flat_str one_str cells_str flat_nilp one_nilp cells_nilp flat_ptr one_ptr cells_ptr flat_nils one_nils cells_nils flat_imm one_imm cells_imm flat_wr one_wr cells_wr flat_wc one_wc cells_wc flat_func one_func cells_func flat_nilf one_nilf cells_nilf flat_map one_map cells_map flat_nilm one_nilm cells_nilm flat_iface one_iface cells_iface flat_nili one_nili cells_nili flat_rd one_rd cells_rd flat_emp one_emp cells_emp flat_byteV one_byteV cells_byteV flat_agg cells_agg one_agg B_size B_list B_ext B_toList B_app List.take_length Int.le_refl
theorem spE_at {ls : List (Int × Int)} {i : Nat} (h : i < ls.length) : (ls.map spV)[i]? = some (spV (ls.getD i (0, 0))) := by
  rw [List.getElem?_map, List.getElem?_eq_getElem h, List.getD_eq_getElem?_getD, List.getElem?_eq_getElem h]
  rfl
theorem spE_mem {l : List (Int × Int)} {i : Nat} (h : i < l.length) : l.getD i (0, 0) ∈ l := by
  rw [List.getD_eq_getElem?_getD, List.getElem?_eq_getElem h]
  exact List.getElem_mem h
theorem sps_len (l : List (Int × Int)) : ∀ x ∈ l.map spV, x.cells.length = 2 := fun x hx => by
  obtain ⟨p, _, rfl⟩ := List.mem_map.1 hx
  rfl
theorem sps_cell (l : List (Int × Int)) {i : Nat} (h : i < l.length) : (((l.map spV).flatMap AV.cells).drop (i * 2)).take 2 = [.int .i64 (l.getD i (0, 0)).1, .int .i64 (l.getD i (0, 0)).2] := by
  rw [flat_drop _ _ (sps_len l) (by rw [List.length_map]; omega)]
  have hd : (l.map spV).drop i = spV (l.getD i (0, 0)) :: (l.map spV).drop (i + 1) := by
    have hi : i < (l.map spV).length := by rw [List.length_map]; exact h
    rw [List.drop_eq_getElem_cons hi]
    congr 1
    rw [List.getElem_map, List.getD_eq_getElem?_getD, List.getElem?_eq_getElem h]
    rfl
  rw [hd, List.flatMap_cons, spV_cells]
  rfl
theorem sps_u (n : Nat) (l : List (Int × Int)) : AllC n (l.map spV) := uc_map n l (fun p => by rw [spV_cells]; simp only [u_top, u_bool, u_int, u_str, u_nilp, u_nils, u_nilf, u_nilm, u_nili, u_emp, u_byteV, u_ptr, u_wr, u_wc, u_agg, u_tup, u_rd, u_imm, u_func, u_nil, u_cons, u_app, uc_nil, uc_cons, uc_app, u_bytes, uc_bytes, u_ints, uc_ints, cells_bool, cells_int, cells_str, cells_agg, cells_ptr, cells_nils, cells_imm, cells_wr, cells_wc, cells_nilp, cells_nilf, cells_nilm, cells_rd, cells_emp, cells_byteV, cells_func, and_self, and_true, true_and, u_slA, uc_strs, cells_slA, strV_is])
theorem sps_one (l : List (Int × Int)) : ((l.map spV).flatMap AV.cells).all AV.one = true := by
  rw [List.all_eq_true]
  intro c hc
  obtain ⟨x, hx, hcx⟩ := List.mem_flatMap.1 hc
  obtain ⟨p, _, rfl⟩ := List.mem_map.1 hx
  rw [spV_cells] at hcx
  simp only [List.mem_cons, List.mem_nil_iff, or_false] at hcx
  rcases hcx with rfl | rfl <;> rfl
def ixSp (p : (Int × Int) → Bool) : List (Int × Int) → Nat → Int
  | [], _ => -1
  | x :: xs, i => if p x = true then (i : Int) else ixSp p xs (i + 1)
theorem ixSp_drop (p : (Int × Int) → Bool) (xs : List (Int × Int)) (i : Nat) (h : i < xs.length) : ixSp p (xs.drop i) i = if p (xs.getD i (0, 0)) = true then (i : Int) else ixSp p (xs.drop (i + 1)) (i + 1) := by
  rw [List.drop_eq_getElem_cons h, ixSp]
  rw [List.getD_eq_getElem?_getD, List.getElem?_eq_getElem h]
  rfl
theorem ixSp_spec (p : (Int × Int) → Bool) : ∀ (xs : List (Int × Int)) (i : Nat), (ixSp p xs i = -1 ∧ ∀ x ∈ xs, p x = false) ∨ ∃ j, ixSp p xs i = ((i + j : Nat) : Int) ∧ j < xs.length ∧ p (xs.getD j (0, 0)) = true ∧ ∀ x ∈ xs.take j, p x = false
  | [], i => .inl ⟨rfl, fun x h => nomatch h⟩
  | x :: xs, i => by
    rw [ixSp]
    by_cases h : p x = true
    · rw [if_pos h]
      exact .inr ⟨0, rfl, by simp, h, fun y hy => nomatch hy⟩
    · rw [if_neg h]
      rw [Bool.not_eq_true] at h
      rcases ixSp_spec p xs (i + 1) with ⟨h1, h2⟩ | ⟨j, h1, h2, h3, h4⟩
      · refine .inl ⟨h1, fun y hy => ?_⟩
        rcases List.mem_cons.1 hy with rfl | e
        · exact h
        · exact h2 y e
      · refine .inr ⟨j + 1, by rw [h1]; omega, by rw [List.length_cons]; omega, h3, fun y hy => ?_⟩
        rw [List.take_succ_cons] at hy
        rcases List.mem_cons.1 hy with rfl | e
        · exact h
        · exact h4 y e
theorem filterS_self {p : (Int × Int) → Bool} {l : List (Int × Int)} (h : ∀ x ∈ l, p x = false) : l.filter (fun x => !p x) = l := by
  rw [List.filter_eq_self]
  intro x hx
  rw [h x hx]
  rfl
section
variable {H : AHeap} {K : AV → AHeap → Prop}
theorem sclone_a {k : Nat} {l : List (Int × Int)} (hn : l.length ≤ 1000000) (h : ∀ v G, SlAt H.next G 64 2 v (l.map spV) → Past H G → G.within G.next → K v G) : (ACalls Try.prog) 50 [slA k 2 (l.map spV)] H K := by
  refine acalls_go mo t50 (fun hs hu => ?_)
  have hrow : ∀ n, n = l.length → ARet H.next K (.wr (H.next + 0) 1 0 n 2) (hp H [.row 64 1 ((l.map spV).flatMap AV.cells)]) := by
    rintro n rfl
    have hw : (hp H [.row 64 1 ((l.map spV).flatMap AV.cells)]).within (hp H [.row 64 1 ((l.map spV).flatMap AV.cells)]).next := within_hp2 hs (fun o ho => by
      rw [List.mem_singleton] at ho
      subst ho
      intro c hc
      obtain ⟨x, hx, hcx⟩ := List.mem_flatMap.1 hc
      exact sps_u _ l x hx c hcx)
    refine aret_full (Nat.le_add_right _ _) hw (.wr _ _ _ _ _ (by show H.next + 0 < H.next + 1; omega)) (h _ _ (.inr ⟨H.next + 0, 1, by rw [List.length_map], Nat.le_refl _, hp_get _ _ 0⟩) (past_hp past_refl _) hw)
  have hal := sps_one l
  have hlen : (l.map spV).length = l.length := List.length_map _
  rcases slA_cases k 2 (l.map spV) with ⟨hk, hx⟩ | ⟨hk, hx⟩ | hk
  · simp only [c50, hk, go_sem, Nat.reduceLeDiff, Nat.reduceAdd, Nat.reduceSub, Nat.reduceMul, Nat.reduceLT, Int.reduceLT, Int.reduceLE, Int.reduceAdd, Int.reduceSub, Int.reduceMul, Int.reduceToNat, Int.reduceNeg, Int.reduceEq, Nat.reducePow, Int.reducePow, Nat.reduceEqDiff, decide_true, decide_false, reduceIte, reduceCtorEq, Int.reduceBEq, Int.reduceBNe, bne_self_eq_false, Int.cast_ofNat_Int, Bool.not_true, Bool.not_false, IntKind.bits]
    have h2 := h .nils H (by rw [hx]; exact slat_nil) past_refl hs
    rw [hp_nil]
    exact aret_full (Nat.le_refl _) hs .nils h2
  · have hl0 : l = [] := by simpa using hx
    subst hl0
    rw [List.map_nil] at hk
    simp only [c50, hk, go_sem, Nat.reduceLeDiff, Nat.reduceAdd, Nat.reduceSub, Nat.reduceMul, Nat.reduceLT, Int.reduceLT, Int.reduceLE, Int.reduceAdd, Int.reduceSub, Int.reduceMul, Int.reduceToNat, Int.reduceNeg, Int.reduceEq, Nat.reducePow, Int.reducePow, Nat.reduceEqDiff, decide_true, decide_false, reduceIte, reduceCtorEq, Int.reduceBEq, Int.reduceBNe, bne_self_eq_false, Int.cast_ofNat_Int, Bool.not_true, Bool.not_false, IntKind.bits]
    simp (maxSteps := 4000000) (disch := (first | omega | (simp only [set_next, List.length_append, List.length_cons, List.length_nil, List.length_take, List.length_drop, List.length_map, List.length_set, List.length_replicate]; omega) | (simp only [set_next, ne_eq, reduceCtorEq, not_false_eq_true]))) only [go_sem, Nat.reduceLeDiff, Nat.reduceAdd, Nat.reduceSub, Nat.reduceMul, Nat.reduceLT, Int.reduceLT, Int.reduceLE, Int.reduceAdd, Int.reduceSub, Int.reduceMul, Int.reduceToNat, Int.reduceNeg, Int.reduceEq, Nat.reducePow, Int.reducePow, Nat.reduceEqDiff, decide_true, decide_false, reduceIte, reduceCtorEq, Int.reduceBEq, Int.reduceBNe, bne_self_eq_false, Int.cast_ofNat_Int, Bool.not_true, Bool.not_false, IntKind.bits, w_nat, w_lit, w_add, w_addl, w_ladd, w_sub, w_subl, w_lsub, w_mul, w_mull, w_lmul, t_div, t_divl, t_mod, t_modl, i_lt, i_ltl, i_llt, i_le, i_lel, i_lle, i_eq, i_eql, i_leq, Nat.zero_le, d_beq, d_bne, d_bytes, byte_at, Int.toNat_natCast, toNat_lit, decide_eq_true, decide_eq_false, if_pos, if_neg, slA_len, slA_idx, slA_cells, flat_slA, one_slA, cells_slA, map_mid, strV_is, hp_get1, hp_get2, hp_get3, hp_set1, hp_set2, hp_set3, hp_old, hp_sold, set_got, set_set, set_next, set_other, bytesL, bytes_all, List.length_map, aapp_nils, aapp_wr, List.flatMap_cons, List.flatMap_nil, Nat.mul_one]
    exact hrow 0 rfl
  · simp only [c50, hk, go_sem, Nat.reduceLeDiff, Nat.reduceAdd, Nat.reduceSub, Nat.reduceMul, Nat.reduceLT, Int.reduceLT, Int.reduceLE, Int.reduceAdd, Int.reduceSub, Int.reduceMul, Int.reduceToNat, Int.reduceNeg, Int.reduceEq, Nat.reducePow, Int.reducePow, Nat.reduceEqDiff, decide_true, decide_false, reduceIte, reduceCtorEq, Int.reduceBEq, Int.reduceBNe, bne_self_eq_false, Int.cast_ofNat_Int, Bool.not_true, Bool.not_false, IntKind.bits]
    simp (maxSteps := 4000000) (disch := (first | omega | (simp only [set_next, List.length_append, List.length_cons, List.length_nil, List.length_take, List.length_drop, List.length_map, List.length_set, List.length_replicate]; omega) | (simp only [set_next, ne_eq, reduceCtorEq, not_false_eq_true]))) only [hal, hlen, go_sem, Nat.reduceLeDiff, Nat.reduceAdd, Nat.reduceSub, Nat.reduceMul, Nat.reduceLT, Int.reduceLT, Int.reduceLE, Int.reduceAdd, Int.reduceSub, Int.reduceMul, Int.reduceToNat, Int.reduceNeg, Int.reduceEq, Nat.reducePow, Int.reducePow, Nat.reduceEqDiff, decide_true, decide_false, reduceIte, reduceCtorEq, Int.reduceBEq, Int.reduceBNe, bne_self_eq_false, Int.cast_ofNat_Int, Bool.not_true, Bool.not_false, IntKind.bits, w_nat, w_lit, w_add, w_addl, w_ladd, w_sub, w_subl, w_lsub, w_mul, w_mull, w_lmul, t_div, t_divl, t_mod, t_modl, i_lt, i_ltl, i_llt, i_le, i_lel, i_lle, i_eq, i_eql, i_leq, Nat.zero_le, d_beq, d_bne, d_bytes, byte_at, Int.toNat_natCast, toNat_lit, decide_eq_true, decide_eq_false, if_pos, if_neg, slA_len, slA_idx, slA_cells, flat_slA, one_slA, cells_slA, map_mid, strV_is, hp_get1, hp_get2, hp_get3, hp_set1, hp_set2, hp_set3, hp_old, hp_sold, set_got, set_set, set_next, set_other, bytesL, bytes_all, List.length_map, aapp_nils, aapp_wr, List.flatMap_cons, List.flatMap_nil, Nat.mul_one]
    exact hrow _ rfl
theorem sindexO_a {n0 : Nat} {v : AV} {l : List (Int × Int)} {p : (Int × Int) → Bool} {f : Nat} {cs : List AV} (hv : SlAt n0 H 64 2 v (l.map spV)) (hn : l.length ≤ 100000)
    (hpp : ∀ x ∈ l, ∀ K : AV → AHeap → Prop, K (.bool (p x)) H → (ACalls Try.prog) f ([] ++ [spV x] ++ cs) H K) (h : K (.int .i64 (ixSp p l 0)) H) :
    (ACalls Try.prog) 47 [v, .func (.func f) [] cs] H K := by
  refine acalls_go mo t47 (fun hs hu => ?_)
  rcases hv with ⟨rfl, he⟩ | ⟨id, gen, rfl, hid, hg⟩
  · have hl : l = [] := by simpa using he
    subst hl
    have h : K (.int .i64 (-1)) H := h
    simp only [c47, go_sem, Nat.reduceLeDiff, Nat.reduceAdd, Nat.reduceSub, Nat.reduceMul, Nat.reduceLT, Int.reduceLT, Int.reduceLE, Int.reduceAdd, Int.reduceSub, Int.reduceMul, Int.reduceToNat, Int.reduceNeg, Int.reduceEq, Nat.reducePow, Int.reducePow, Nat.reduceEqDiff, decide_true, decide_false, reduceIte, reduceCtorEq, Int.reduceBEq, Int.reduceBNe, bne_self_eq_false, Int.cast_ofNat_Int, Bool.not_true, Bool.not_false, IntKind.bits]
    refine go_rounds mono 1 ?_
    simp (maxSteps := 4000000) (disch := (first | omega | (simp only [set_next, List.length_append, List.length_cons, List.length_nil, List.length_take, List.length_drop, List.length_map, List.length_set, List.length_replicate]; omega) | (simp only [set_next, ne_eq, reduceCtorEq, not_false_eq_true]))) only [rnds_succ, go_sem, Nat.reduceLeDiff, Nat.reduceAdd, Nat.reduceSub, Nat.reduceMul, Nat.reduceLT, Int.reduceLT, Int.reduceLE, Int.reduceAdd, Int.reduceSub, Int.reduceMul, Int.reduceToNat, Int.reduceNeg, Int.reduceEq, Nat.reducePow, Int.reducePow, Nat.reduceEqDiff, decide_true, decide_false, reduceIte, reduceCtorEq, Int.reduceBEq, Int.reduceBNe, bne_self_eq_false, Int.cast_ofNat_Int, Bool.not_true, Bool.not_false, IntKind.bits, w_nat, w_lit, w_add, w_addl, w_ladd, w_sub, w_subl, w_lsub, w_mul, w_mull, w_lmul, t_div, t_divl, t_mod, t_modl, i_lt, i_ltl, i_llt, i_le, i_lel, i_lle, i_eq, i_eql, i_leq, Nat.zero_le, d_beq, d_bne, d_bytes, byte_at, Int.toNat_natCast, toNat_lit, decide_eq_true, decide_eq_false, if_pos, if_neg, slA_len, slA_idx, slA_cells, flat_slA, one_slA, cells_slA, map_mid, strV_is, hp_get1, hp_get2, hp_get3, hp_set1, hp_set2, hp_set3, hp_old, hp_sold, set_got, set_set, set_next, set_other, bytesL, bytes_all, List.length_map, aapp_nils, aapp_wr, List.flatMap_cons, List.flatMap_nil, Nat.mul_one]
    exact aret_plain hs (by simp only [u_top, u_bool, u_int, u_str, u_nilp, u_nils, u_nilf, u_nilm, u_nili, u_emp, u_byteV, u_ptr, u_wr, u_wc, u_agg, u_tup, u_rd, u_imm, u_func, u_nil, u_cons, u_app, uc_nil, uc_cons, uc_app, u_bytes, uc_bytes, u_ints, uc_ints, cells_bool, cells_int, cells_str, cells_agg, cells_ptr, cells_nils, cells_imm, cells_wr, cells_wc, cells_nilp, cells_nilf, cells_nilm, cells_rd, cells_emp, cells_byteV, cells_func, and_self, and_true, true_and, u_slA, uc_strs, cells_slA, strV_is]) (h)
  · have hlg := H.lt hg
    have hfl := flat_length _ _ (sps_len l)
    have hcell := fun i (hi : i < l.length) => sps_cell l hi
    rw [List.length_map] at hfl ⊢
    generalize (l.map spV).flatMap AV.cells = R at *
    simp only [c47, go_sem, Nat.reduceLeDiff, Nat.reduceAdd, Nat.reduceSub, Nat.reduceMul, Nat.reduceLT, Int.reduceLT, Int.reduceLE, Int.reduceAdd, Int.reduceSub, Int.reduceMul, Int.reduceToNat, Int.reduceNeg, Int.reduceEq, Nat.reducePow, Int.reducePow, Nat.reduceEqDiff, decide_true, decide_false, reduceIte, reduceCtorEq, Int.reduceBEq, Int.reduceBNe, bne_self_eq_false, Int.cast_ofNat_Int, Bool.not_true, Bool.not_false, IntKind.bits]
    refine go_loopS mono (σ := Nat) (fun i => [(8, .int .i64 (i : Int))]) (fun i => hp H []) (fun i => i ≤ l.length ∧ ixSp p (l.drop i) i = ixSp p l 0) (fun i => l.length - i) 0 ?_ rfl ⟨by omega, rfl⟩ (fun i hi J hJ => ?_)
    · (simp only [blurR_nil, blurR_some, blurR_none, blurC_region, blurC_regionN, blurC_fregion, blurT_nil, blurT_cons, blurC_seq, blurC_both, blurC_cond, blurC_block, blurC_loop, blurC_skip, blurC_exit, blurC_ret, tellS_nil, tellS_cons, List.set_cons_zero, List.set_cons_succ, tops_zero, tops_succ]; repeat first | exact forget_nil | apply forget_keep | apply forget_top)
    obtain ⟨hil, hix⟩ := hi
    simp only [blurR_nil, blurR_some, blurR_none, blurC_region, blurC_regionN, blurC_fregion, blurT_nil, blurT_cons, blurC_seq, blurC_both, blurC_cond, blurC_block, blurC_loop, blurC_skip, blurC_exit, blurC_ret, tellS_nil, tellS_cons, List.set_cons_zero, List.set_cons_succ, tops_zero, tops_succ]
    by_cases h1 : i < l.length
    · have hcm := hcell i h1
      have hm := spE_mem h1
      rw [ixSp_drop p l i h1] at hix
      generalize l.getD i (0, 0) = x at *
      simp (maxSteps := 4000000) (disch := (first | omega | (simp only [set_next, List.length_append, List.length_cons, List.length_nil, List.length_take, List.length_drop, List.length_map, List.length_set, List.length_replicate]; omega) | (simp only [set_next, ne_eq, reduceCtorEq, not_false_eq_true]))) only [hg, hcm, go_sem, Nat.reduceLeDiff, Nat.reduceAdd, Nat.reduceSub, Nat.reduceMul, Nat.reduceLT, Int.reduceLT, Int.reduceLE, Int.reduceAdd, Int.reduceSub, Int.reduceMul, Int.reduceToNat, Int.reduceNeg, Int.reduceEq, Nat.reducePow, Int.reducePow, Nat.reduceEqDiff, decide_true, decide_false, reduceIte, reduceCtorEq, Int.reduceBEq, Int.reduceBNe, bne_self_eq_false, Int.cast_ofNat_Int, Bool.not_true, Bool.not_false, IntKind.bits, w_nat, w_lit, w_add, w_addl, w_ladd, w_sub, w_subl, w_lsub, w_mul, w_mull, w_lmul, t_div, t_divl, t_mod, t_modl, i_lt, i_ltl, i_llt, i_le, i_lel, i_lle, i_eq, i_eql, i_leq, Nat.zero_le, d_beq, d_bne, d_bytes, byte_at, Int.toNat_natCast, toNat_lit, decide_eq_true, decide_eq_false, if_pos, if_neg, slA_len, slA_idx, slA_cells, flat_slA, one_slA, cells_slA, map_mid, strV_is, hp_get1, hp_get2, hp_get3, hp_set1, hp_set2, hp_set3, hp_old, hp_sold, set_got, set_set, set_next, set_other, bytesL, bytes_all, List.length_map, aapp_nils, aapp_wr, List.flatMap_cons, List.flatMap_nil, Nat.mul_one]
      rw [← spV_is, hp_nil]
      refine hpp _ hm _ ?_
      rw [← hp_nil (H := H)]
      cases h2 : p x with
      | true =>
        rw [if_pos h2] at hix
        rw [← hix] at h
        simp (maxSteps := 4000000) (disch := (first | omega | (simp only [set_next, List.length_append, List.length_cons, List.length_nil, List.length_take, List.length_drop, List.length_map, List.length_set, List.length_replicate]; omega) | (simp only [set_next, ne_eq, reduceCtorEq, not_false_eq_true]))) only [go_sem, Nat.reduceLeDiff, Nat.reduceAdd, Nat.reduceSub, Nat.reduceMul, Nat.reduceLT, Int.reduceLT, Int.reduceLE, Int.reduceAdd, Int.reduceSub, Int.reduceMul, Int.reduceToNat, Int.reduceNeg, Int.reduceEq, Nat.reducePow, Int.reducePow, Nat.reduceEqDiff, decide_true, decide_false, reduceIte, reduceCtorEq, Int.reduceBEq, Int.reduceBNe, bne_self_eq_false, Int.cast_ofNat_Int, Bool.not_true, Bool.not_false, IntKind.bits, w_nat, w_lit, w_add, w_addl, w_ladd, w_sub, w_subl, w_lsub, w_mul, w_mull, w_lmul, t_div, t_divl, t_mod, t_modl, i_lt, i_ltl, i_llt, i_le, i_lel, i_lle, i_eq, i_eql, i_leq, Nat.zero_le, d_beq, d_bne, d_bytes, byte_at, Int.toNat_natCast, toNat_lit, decide_eq_true, decide_eq_false, if_pos, if_neg, slA_len, slA_idx, slA_cells, flat_slA, one_slA, cells_slA, map_mid, strV_is, hp_get1, hp_get2, hp_get3, hp_set1, hp_set2, hp_set3, hp_old, hp_sold, set_got, set_set, set_next, set_other, bytesL, bytes_all, List.length_map, aapp_nils, aapp_wr, List.flatMap_cons, List.flatMap_nil, Nat.mul_one]
        exact aret_plain hs (by simp only [u_top, u_bool, u_int, u_str, u_nilp, u_nils, u_nilf, u_nilm, u_nili, u_emp, u_byteV, u_ptr, u_wr, u_wc, u_agg, u_tup, u_rd, u_imm, u_func, u_nil, u_cons, u_app, uc_nil, uc_cons, uc_app, u_bytes, uc_bytes, u_ints, uc_ints, cells_bool, cells_int, cells_str, cells_agg, cells_ptr, cells_nils, cells_imm, cells_wr, cells_wc, cells_nilp, cells_nilf, cells_nilm, cells_rd, cells_emp, cells_byteV, cells_func, and_self, and_true, true_and, u_slA, uc_strs, cells_slA, strV_is]) (h)
      | false =>
        rw [if_neg (by rw [h2]; exact Bool.false_ne_true)] at hix
        simp (maxSteps := 4000000) (disch := (first | omega | (simp only [set_next, List.length_append, List.length_cons, List.length_nil, List.length_take, List.length_drop, List.length_map, List.length_set, List.length_replicate]; omega) | (simp only [set_next, ne_eq, reduceCtorEq, not_false_eq_true]))) only [go_sem, Nat.reduceLeDiff, Nat.reduceAdd, Nat.reduceSub, Nat.reduceMul, Nat.reduceLT, Int.reduceLT, Int.reduceLE, Int.reduceAdd, Int.reduceSub, Int.reduceMul, Int.reduceToNat, Int.reduceNeg, Int.reduceEq, Nat.reducePow, Int.reducePow, Nat.reduceEqDiff, decide_true, decide_false, reduceIte, reduceCtorEq, Int.reduceBEq, Int.reduceBNe, bne_self_eq_false, Int.cast_ofNat_Int, Bool.not_true, Bool.not_false, IntKind.bits, w_nat, w_lit, w_add, w_addl, w_ladd, w_sub, w_subl, w_lsub, w_mul, w_mull, w_lmul, t_div, t_divl, t_mod, t_modl, i_lt, i_ltl, i_llt, i_le, i_lel, i_lle, i_eq, i_eql, i_leq, Nat.zero_le, d_beq, d_bne, d_bytes, byte_at, Int.toNat_natCast, toNat_lit, decide_eq_true, decide_eq_false, if_pos, if_neg, slA_len, slA_idx, slA_cells, flat_slA, one_slA, cells_slA, map_mid, strV_is, hp_get1, hp_get2, hp_get3, hp_set1, hp_set2, hp_set3, hp_old, hp_sold, set_got, set_set, set_next, set_other, bytesL, bytes_all, List.length_map, aapp_nils, aapp_wr, List.flatMap_cons, List.flatMap_nil, Nat.mul_one]
        exact hJ (i + 1) _ ⟨h1, hix⟩ (by omega) (by (simp only [blurR_nil, blurR_some, blurR_none, blurC_region, blurC_regionN, blurC_fregion, blurT_nil, blurT_cons, blurC_seq, blurC_both, blurC_cond, blurC_block, blurC_loop, blurC_skip, blurC_exit, blurC_ret, tellS_nil, tellS_cons, List.set_cons_zero, List.set_cons_succ, tops_zero, tops_succ]; repeat first | exact forget_nil | apply forget_keep | apply forget_top))
    · rw [List.drop_of_length_le (by omega)] at hix
      rw [← hix] at h
      simp (maxSteps := 4000000) (disch := (first | omega | (simp only [set_next, List.length_append, List.length_cons, List.length_nil, List.length_take, List.length_drop, List.length_map, List.length_set, List.length_replicate]; omega) | (simp only [set_next, ne_eq, reduceCtorEq, not_false_eq_true]))) only [go_sem, Nat.reduceLeDiff, Nat.reduceAdd, Nat.reduceSub, Nat.reduceMul, Nat.reduceLT, Int.reduceLT, Int.reduceLE, Int.reduceAdd, Int.reduceSub, Int.reduceMul, Int.reduceToNat, Int.reduceNeg, Int.reduceEq, Nat.reducePow, Int.reducePow, Nat.reduceEqDiff, decide_true, decide_false, reduceIte, reduceCtorEq, Int.reduceBEq, Int.reduceBNe, bne_self_eq_false, Int.cast_ofNat_Int, Bool.not_true, Bool.not_false, IntKind.bits, w_nat, w_lit, w_add, w_addl, w_ladd, w_sub, w_subl, w_lsub, w_mul, w_mull, w_lmul, t_div, t_divl, t_mod, t_modl, i_lt, i_ltl, i_llt, i_le, i_lel, i_lle, i_eq, i_eql, i_leq, Nat.zero_le, d_beq, d_bne, d_bytes, byte_at, Int.toNat_natCast, toNat_lit, decide_eq_true, decide_eq_false, if_pos, if_neg, slA_len, slA_idx, slA_cells, flat_slA, one_slA, cells_slA, map_mid, strV_is, hp_get1, hp_get2, hp_get3, hp_set1, hp_set2, hp_set3, hp_old, hp_sold, set_got, set_set, set_next, set_other, bytesL, bytes_all, List.length_map, aapp_nils, aapp_wr, List.flatMap_cons, List.flatMap_nil, Nat.mul_one]
      exact aret_plain hs (by simp only [u_top, u_bool, u_int, u_str, u_nilp, u_nils, u_nilf, u_nilm, u_nili, u_emp, u_byteV, u_ptr, u_wr, u_wc, u_agg, u_tup, u_rd, u_imm, u_func, u_nil, u_cons, u_app, uc_nil, uc_cons, uc_app, u_bytes, uc_bytes, u_ints, uc_ints, cells_bool, cells_int, cells_str, cells_agg, cells_ptr, cells_nils, cells_imm, cells_wr, cells_wc, cells_nilp, cells_nilf, cells_nilm, cells_rd, cells_emp, cells_byteV, cells_func, and_self, and_true, true_and, u_slA, uc_strs, cells_slA, strV_is]) (h)
theorem sindex_a {k : Nat} {l : List (Int × Int)} {p : (Int × Int) → Bool} {f : Nat} {fs cs : List AV} (hn : l.length ≤ 9223372036854775807)
    (hpp : ∀ x ∈ l, ∀ K : AV → AHeap → Prop, K (.bool (p x)) H → (ACalls Try.prog) f (fs ++ [spV x] ++ cs) H K) (h : K (.int .i64 (ixSp p l 0)) H) :
    (ACalls Try.prog) 47 [slA k 2 (l.map spV), .func (.func f) fs cs] H K := by
  refine acalls_go mo t47 (fun hs hu => ?_)
  simp only [c47, go_sem, Nat.reduceLeDiff, Nat.reduceAdd, Nat.reduceSub, Nat.reduceMul, Nat.reduceLT, Int.reduceLT, Int.reduceLE, Int.reduceAdd, Int.reduceSub, Int.reduceMul, Int.reduceToNat, Int.reduceNeg, Int.reduceEq, Nat.reducePow, Int.reducePow, Nat.reduceEqDiff, decide_true, decide_false, reduceIte, reduceCtorEq, Int.reduceBEq, Int.reduceBNe, bne_self_eq_false, Int.cast_ofNat_Int, Bool.not_true, Bool.not_false, IntKind.bits]
  simp (maxSteps := 4000000) (disch := (first | omega | (simp only [set_next, List.length_append, List.length_cons, List.length_nil, List.length_take, List.length_drop, List.length_map, List.length_set, List.length_replicate]; omega) | (simp only [set_next, ne_eq, reduceCtorEq, not_false_eq_true]))) only [go_sem, Nat.reduceLeDiff, Nat.reduceAdd, Nat.reduceSub, Nat.reduceMul, Nat.reduceLT, Int.reduceLT, Int.reduceLE, Int.reduceAdd, Int.reduceSub, Int.reduceMul, Int.reduceToNat, Int.reduceNeg, Int.reduceEq, Nat.reducePow, Int.reducePow, Nat.reduceEqDiff, decide_true, decide_false, reduceIte, reduceCtorEq, Int.reduceBEq, Int.reduceBNe, bne_self_eq_false, Int.cast_ofNat_Int, Bool.not_true, Bool.not_false, IntKind.bits, w_nat, w_lit, w_add, w_addl, w_ladd, w_sub, w_subl, w_lsub, w_mul, w_mull, w_lmul, t_div, t_divl, t_mod, t_modl, i_lt, i_ltl, i_llt, i_le, i_lel, i_lle, i_eq, i_eql, i_leq, Nat.zero_le, d_beq, d_bne, d_bytes, byte_at, Int.toNat_natCast, toNat_lit, decide_eq_true, decide_eq_false, if_pos, if_neg, slA_len, slA_idx, slA_cells, flat_slA, one_slA, cells_slA, map_mid, strV_is, hp_get1, hp_get2, hp_get3, hp_set1, hp_set2, hp_set3, hp_old, hp_sold, set_got, set_set, set_next, set_other, bytesL, bytes_all, List.length_map, aapp_nils, aapp_wr, List.flatMap_cons, List.flatMap_nil, Nat.mul_one]
  refine go_loopS mono (σ := Nat) (fun i => [(8, .int .i64 (i : Int))]) (fun i => hp H []) (fun i => i ≤ l.length ∧ ixSp p (l.drop i) i = ixSp p l 0) (fun i => l.length - i) 0 ?_ rfl ⟨by omega, rfl⟩ (fun i hi J hJ => ?_)
  · (simp only [blurR_nil, blurR_some, blurR_none, blurC_region, blurC_regionN, blurC_fregion, blurT_nil, blurT_cons, blurC_seq, blurC_both, blurC_cond, blurC_block, blurC_loop, blurC_skip, blurC_exit, blurC_ret, tellS_nil, tellS_cons, List.set_cons_zero, List.set_cons_succ, tops_zero, tops_succ]; repeat first | exact forget_nil | apply forget_keep | apply forget_top)
  obtain ⟨hil, hid⟩ := hi
  simp only [blurR_nil, blurR_some, blurR_none, blurC_region, blurC_regionN, blurC_fregion, blurT_nil, blurT_cons, blurC_seq, blurC_both, blurC_cond, blurC_block, blurC_loop, blurC_skip, blurC_exit, blurC_ret, tellS_nil, tellS_cons, List.set_cons_zero, List.set_cons_succ, tops_zero, tops_succ]
  by_cases h1 : i < l.length
  · have ha := spE_at h1
    have hm := spE_mem h1
    rw [ixSp_drop p l i h1] at hid
    generalize l.getD i (0, 0) = x at *
    simp (maxSteps := 4000000) (disch := (first | omega | (simp only [set_next, List.length_append, List.length_cons, List.length_nil, List.length_take, List.length_drop, List.length_map, List.length_set, List.length_replicate]; omega) | (simp only [set_next, ne_eq, reduceCtorEq, not_false_eq_true]))) only [ha, spV_cells, go_sem, Nat.reduceLeDiff, Nat.reduceAdd, Nat.reduceSub, Nat.reduceMul, Nat.reduceLT, Int.reduceLT, Int.reduceLE, Int.reduceAdd, Int.reduceSub, Int.reduceMul, Int.reduceToNat, Int.reduceNeg, Int.reduceEq, Nat.reducePow, Int.reducePow, Nat.reduceEqDiff, decide_true, decide_false, reduceIte, reduceCtorEq, Int.reduceBEq, Int.reduceBNe, bne_self_eq_false, Int.cast_ofNat_Int, Bool.not_true, Bool.not_false, IntKind.bits, w_nat, w_lit, w_add, w_addl, w_ladd, w_sub, w_subl, w_lsub, w_mul, w_mull, w_lmul, t_div, t_divl, t_mod, t_modl, i_lt, i_ltl, i_llt, i_le, i_lel, i_lle, i_eq, i_eql, i_leq, Nat.zero_le, d_beq, d_bne, d_bytes, byte_at, Int.toNat_natCast, toNat_lit, decide_eq_true, decide_eq_false, if_pos, if_neg, slA_len, slA_idx, slA_cells, flat_slA, one_slA, cells_slA, map_mid, strV_is, hp_get1, hp_get2, hp_get3, hp_set1, hp_set2, hp_set3, hp_old, hp_sold, set_got, set_set, set_next, set_other, bytesL, bytes_all, List.length_map, aapp_nils, aapp_wr, List.flatMap_cons, List.flatMap_nil, Nat.mul_one]
    rw [← spV_is, hp_nil]
    refine hpp _ hm _ ?_
    rw [← hp_nil (H := H)]
    cases h2 : p x with
    | true =>
      rw [if_pos h2] at hid
      rw [← hid] at h
      simp (maxSteps := 4000000) (disch := (first | omega | (simp only [set_next, List.length_append, List.length_cons, List.length_nil, List.length_take, List.length_drop, List.length_map, List.length_set, List.length_replicate]; omega) | (simp only [set_next, ne_eq, reduceCtorEq, not_false_eq_true]))) only [go_sem, Nat.reduceLeDiff, Nat.reduceAdd, Nat.reduceSub, Nat.reduceMul, Nat.reduceLT, Int.reduceLT, Int.reduceLE, Int.reduceAdd, Int.reduceSub, Int.reduceMul, Int.reduceToNat, Int.reduceNeg, Int.reduceEq, Nat.reducePow, Int.reducePow, Nat.reduceEqDiff, decide_true, decide_false, reduceIte, reduceCtorEq, Int.reduceBEq, Int.reduceBNe, bne_self_eq_false, Int.cast_ofNat_Int, Bool.not_true, Bool.not_false, IntKind.bits, w_nat, w_lit, w_add, w_addl, w_ladd, w_sub, w_subl, w_lsub, w_mul, w_mull, w_lmul, t_div, t_divl, t_mod, t_modl, i_lt, i_ltl, i_llt, i_le, i_lel, i_lle, i_eq, i_eql, i_leq, Nat.zero_le, d_beq, d_bne, d_bytes, byte_at, Int.toNat_natCast, toNat_lit, decide_eq_true, decide_eq_false, if_pos, if_neg, slA_len, slA_idx, slA_cells, flat_slA, one_slA, cells_slA, map_mid, strV_is, hp_get1, hp_get2, hp_get3, hp_set1, hp_set2, hp_set3, hp_old, hp_sold, set_got, set_set, set_next, set_other, bytesL, bytes_all, List.length_map, aapp_nils, aapp_wr, List.flatMap_cons, List.flatMap_nil, Nat.mul_one]
      exact aret_plain hs (by simp only [u_top, u_bool, u_int, u_str, u_nilp, u_nils, u_nilf, u_nilm, u_nili, u_emp, u_byteV, u_ptr, u_wr, u_wc, u_agg, u_tup, u_rd, u_imm, u_func, u_nil, u_cons, u_app, uc_nil, uc_cons, uc_app, u_bytes, uc_bytes, u_ints, uc_ints, cells_bool, cells_int, cells_str, cells_agg, cells_ptr, cells_nils, cells_imm, cells_wr, cells_wc, cells_nilp, cells_nilf, cells_nilm, cells_rd, cells_emp, cells_byteV, cells_func, and_self, and_true, true_and, u_slA, uc_strs, cells_slA, strV_is]) (h)
    | false =>
      rw [if_neg (by rw [h2]; exact Bool.false_ne_true)] at hid
      simp (maxSteps := 4000000) (disch := (first | omega | (simp only [set_next, List.length_append, List.length_cons, List.length_nil, List.length_take, List.length_drop, List.length_map, List.length_set, List.length_replicate]; omega) | (simp only [set_next, ne_eq, reduceCtorEq, not_false_eq_true]))) only [go_sem, Nat.reduceLeDiff, Nat.reduceAdd, Nat.reduceSub, Nat.reduceMul, Nat.reduceLT, Int.reduceLT, Int.reduceLE, Int.reduceAdd, Int.reduceSub, Int.reduceMul, Int.reduceToNat, Int.reduceNeg, Int.reduceEq, Nat.reducePow, Int.reducePow, Nat.reduceEqDiff, decide_true, decide_false, reduceIte, reduceCtorEq, Int.reduceBEq, Int.reduceBNe, bne_self_eq_false, Int.cast_ofNat_Int, Bool.not_true, Bool.not_false, IntKind.bits, w_nat, w_lit, w_add, w_addl, w_ladd, w_sub, w_subl, w_lsub, w_mul, w_mull, w_lmul, t_div, t_divl, t_mod, t_modl, i_lt, i_ltl, i_llt, i_le, i_lel, i_lle, i_eq, i_eql, i_leq, Nat.zero_le, d_beq, d_bne, d_bytes, byte_at, Int.toNat_natCast, toNat_lit, decide_eq_true, decide_eq_false, if_pos, if_neg, slA_len, slA_idx, slA_cells, flat_slA, one_slA, cells_slA, map_mid, strV_is, hp_get1, hp_get2, hp_get3, hp_set1, hp_set2, hp_set3, hp_old, hp_sold, set_got, set_set, set_next, set_other, bytesL, bytes_all, List.length_map, aapp_nils, aapp_wr, List.flatMap_cons, List.flatMap_nil, Nat.mul_one]
      exact hJ (i + 1) _ ⟨h1, hid⟩ (by omega) (by (simp only [blurR_nil, blurR_some, blurR_none, blurC_region, blurC_regionN, blurC_fregion, blurT_nil, blurT_cons, blurC_seq, blurC_both, blurC_cond, blurC_block, blurC_loop, blurC_skip, blurC_exit, blurC_ret, tellS_nil, tellS_cons, List.set_cons_zero, List.set_cons_succ, tops_zero, tops_succ]; repeat first | exact forget_nil | apply forget_keep | apply forget_top))
  · rw [List.drop_of_length_le (by omega)] at hid
    rw [← hid] at h
    simp (maxSteps := 4000000) (disch := (first | omega | (simp only [set_next, List.length_append, List.length_cons, List.length_nil, List.length_take, List.length_drop, List.length_map, List.length_set, List.length_replicate]; omega) | (simp only [set_next, ne_eq, reduceCtorEq, not_false_eq_true]))) only [go_sem, Nat.reduceLeDiff, Nat.reduceAdd, Nat.reduceSub, Nat.reduceMul, Nat.reduceLT, Int.reduceLT, Int.reduceLE, Int.reduceAdd, Int.reduceSub, Int.reduceMul, Int.reduceToNat, Int.reduceNeg, Int.reduceEq, Nat.reducePow, Int.reducePow, Nat.reduceEqDiff, decide_true, decide_false, reduceIte, reduceCtorEq, Int.reduceBEq, Int.reduceBNe, bne_self_eq_false, Int.cast_ofNat_Int, Bool.not_true, Bool.not_false, IntKind.bits, w_nat, w_lit, w_add, w_addl, w_ladd, w_sub, w_subl, w_lsub, w_mul, w_mull, w_lmul, t_div, t_divl, t_mod, t_modl, i_lt, i_ltl, i_llt, i_le, i_lel, i_lle, i_eq, i_eql, i_leq, Nat.zero_le, d_beq, d_bne, d_bytes, byte_at, Int.toNat_natCast, toNat_lit, decide_eq_true, decide_eq_false, if_pos, if_neg, slA_len, slA_idx, slA_cells, flat_slA, one_slA, cells_slA, map_mid, strV_is, hp_get1, hp_get2, hp_get3, hp_set1, hp_set2, hp_set3, hp_old, hp_sold, set_got, set_set, set_next, set_other, bytesL, bytes_all, List.length_map, aapp_nils, aapp_wr, List.flatMap_cons, List.flatMap_nil, Nat.mul_one]
    exact aret_plain hs (by simp only [u_top, u_bool, u_int, u_str, u_nilp, u_nils, u_nilf, u_nilm, u_nili, u_emp, u_byteV, u_ptr, u_wr, u_wc, u_agg, u_tup, u_rd, u_imm, u_func, u_nil, u_cons, u_app, uc_nil, uc_cons, uc_app, u_bytes, uc_bytes, u_ints, uc_ints, cells_bool, cells_int, cells_str, cells_agg, cells_ptr, cells_nils, cells_imm, cells_wr, cells_wc, cells_nilp, cells_nilf, cells_nilm, cells_rd, cells_emp, cells_byteV, cells_func, and_self, and_true, true_and, u_slA, uc_strs, cells_slA, strV_is]) (h)
theorem deleteS_a {n0 : Nat} {v : AV} {l : List (Int × Int)} {p : (Int × Int) → Bool} {f : Nat} {cs : List AV} (hv : SlAt n0 H 64 2 v (l.map spV)) (hn : l.length ≤ 100000)
    (hpp : ∀ x ∈ l, ∀ (G : AHeap) (K : AV → AHeap → Prop), K (.bool (p x)) G → (ACalls Try.prog) f ([] ++ [spV x] ++ cs) G K)
    (h : ∀ v' G, SlAt n0 G 64 2 v' ((l.filter (fun x => !p x)).map spV) → (∀ i, (∀ gen off len sz, v ≠ .wr i gen off len sz) → G.get i = H.get i) → G.next = H.next → (v' = .nils → v = .nils) → K v' G) :
    (ACalls Try.prog) 56 [v, .func (.func f) [] cs] H K := by
  refine acalls_go mo t56 (fun hs hu => ?_)
  simp only [c56, go_sem, Nat.reduceLeDiff, Nat.reduceAdd, Nat.reduceSub, Nat.reduceMul, Nat.reduceLT, Int.reduceLT, Int.reduceLE, Int.reduceAdd, Int.reduceSub, Int.reduceMul, Int.reduceToNat, Int.reduceNeg, Int.reduceEq, Nat.reducePow, Int.reducePow, Nat.reduceEqDiff, decide_true, decide_false, reduceIte, reduceCtorEq, Int.reduceBEq, Int.reduceBNe, bne_self_eq_false, Int.cast_ofNat_Int, Bool.not_true, Bool.not_false, IntKind.bits]
  refine sindexO_a (slat_hp hv []) hn (fun x hx K hk => hpp x hx _ K hk) ?_
  rcases ixSp_spec p l 0 with ⟨h1, h2⟩ | ⟨j0, h1, h2, h3, h4⟩
  · have hx := h v H (by rw [filterS_self h2]; exact hv) (fun _ _ => rfl) rfl (fun e => e)
    rw [h1]
    simp (maxSteps := 4000000) (disch := (first | omega | (simp only [set_next, List.length_append, List.length_cons, List.length_nil, List.length_take, List.length_drop, List.length_map, List.length_set, List.length_replicate]; omega) | (simp only [set_next, ne_eq, reduceCtorEq, not_false_eq_true]))) only [go_sem, Nat.reduceLeDiff, Nat.reduceAdd, Nat.reduceSub, Nat.reduceMul, Nat.reduceLT, Int.reduceLT, Int.reduceLE, Int.reduceAdd, Int.reduceSub, Int.reduceMul, Int.reduceToNat, Int.reduceNeg, Int.reduceEq, Nat.reducePow, Int.reducePow, Nat.reduceEqDiff, decide_true, decide_false, reduceIte, reduceCtorEq, Int.reduceBEq, Int.reduceBNe, bne_self_eq_false, Int.cast_ofNat_Int, Bool.not_true, Bool.not_false, IntKind.bits, w_nat, w_lit, w_add, w_addl, w_ladd, w_sub, w_subl, w_lsub, w_mul, w_mull, w_lmul, t_div, t_divl, t_mod, t_modl, i_lt, i_ltl, i_llt, i_le, i_lel, i_lle, i_eq, i_eql, i_leq, Nat.zero_le, d_beq, d_bne, d_bytes, byte_at, Int.toNat_natCast, toNat_lit, decide_eq_true, decide_eq_false, if_pos, if_neg, slA_len, slA_idx, slA_cells, flat_slA, one_slA, cells_slA, map_mid, strV_is, hp_get1, hp_get2, hp_get3, hp_set1, hp_set2, hp_set3, hp_old, hp_sold, set_got, set_set, set_next, set_other, bytesL, bytes_all, List.length_map, aapp_nils, aapp_wr, List.flatMap_cons, List.flatMap_nil, Nat.mul_one]
    rw [hp_nil]
    exact aret_full (Nat.le_refl _) hs (slat_under hv) hx
  · rw [h1, Nat.zero_add]
    rcases hv with ⟨rfl, he⟩ | ⟨id, gen, rfl, hid, hg⟩
    · have hl : l = [] := by simpa using he
      subst hl
      exact absurd h2 (Nat.not_lt_zero _)
    · have hlg := H.lt hg
      have hfl := flat_length _ _ (sps_len l)
      rw [List.length_map] at hfl ⊢
      have ht0 : (l.take (j0 + 1)).filter (fun x => !p x) = l.take j0 := by
        rw [List.take_add_one, List.filter_append, filterS_self h4, List.getElem?_eq_getElem h2]
        have : p l[j0] = true := by
          rw [List.getD_eq_getElem?_getD, List.getElem?_eq_getElem h2] at h3
          exact h3
        simp [this]
      simp (maxSteps := 4000000) (disch := (first | omega | (simp only [set_next, List.length_append, List.length_cons, List.length_nil, List.length_take, List.length_drop, List.length_map, List.length_set, List.length_replicate]; omega) | (simp only [set_next, ne_eq, reduceCtorEq, not_false_eq_true]))) only [go_sem, Nat.reduceLeDiff, Nat.reduceAdd, Nat.reduceSub, Nat.reduceMul, Nat.reduceLT, Int.reduceLT, Int.reduceLE, Int.reduceAdd, Int.reduceSub, Int.reduceMul, Int.reduceToNat, Int.reduceNeg, Int.reduceEq, Nat.reducePow, Int.reducePow, Nat.reduceEqDiff, decide_true, decide_false, reduceIte, reduceCtorEq, Int.reduceBEq, Int.reduceBNe, bne_self_eq_false, Int.cast_ofNat_Int, Bool.not_true, Bool.not_false, IntKind.bits, w_nat, w_lit, w_add, w_addl, w_ladd, w_sub, w_subl, w_lsub, w_mul, w_mull, w_lmul, t_div, t_divl, t_mod, t_modl, i_lt, i_ltl, i_llt, i_le, i_lel, i_lle, i_eq, i_eql, i_leq, Nat.zero_le, d_beq, d_bne, d_bytes, byte_at, Int.toNat_natCast, toNat_lit, decide_eq_true, decide_eq_false, if_pos, if_neg, slA_len, slA_idx, slA_cells, flat_slA, one_slA, cells_slA, map_mid, strV_is, hp_get1, hp_get2, hp_get3, hp_set1, hp_set2, hp_set3, hp_old, hp_sold, set_got, set_set, set_next, set_other, bytesL, bytes_all, List.length_map, aapp_nils, aapp_wr, List.flatMap_cons, List.flatMap_nil, Nat.mul_one]
      refine go_loopS mono (σ := AHeap × List AV × Nat × Nat) (fun z => [(5, .int .i64 (z.2.2.1 : Int)), (6, .int .i64 (z.2.2.2 : Int))]) (fun z => hp z.1 []) (fun z => Past (H.set id (.row 64 gen z.2.1)) z.1 ∧ z.2.1.length = l.length * 2 ∧ z.2.2.1 < z.2.2.2 ∧ z.2.2.2 ≤ l.length ∧ z.2.1.take (z.2.2.1 * 2) = (((l.take z.2.2.2).filter (fun x => !p x)).map spV).flatMap AV.cells ∧ z.2.1.drop (z.2.2.2 * 2) = ((l.drop z.2.2.2).map spV).flatMap AV.cells ∧ z.2.2.1 = ((l.take z.2.2.2).filter (fun x => !p x)).length) (fun z => l.length - z.2.2.2) (H, (l.map spV).flatMap AV.cells, j0, j0 + 1) ?_ rfl ⟨⟨Nat.le_refl _, fun i hi => ?_⟩, hfl, Nat.lt_succ_self _, h2, ?_, ?_, ?_⟩ (fun z hz J hJ => ?_)
      · (simp only [blurR_nil, blurR_some, blurR_none, blurC_region, blurC_regionN, blurC_fregion, blurT_nil, blurT_cons, blurC_seq, blurC_both, blurC_cond, blurC_block, blurC_loop, blurC_skip, blurC_exit, blurC_ret, tellS_nil, tellS_cons, List.set_cons_zero, List.set_cons_succ, tops_zero, tops_succ]; repeat first | exact forget_nil | apply forget_keep | apply forget_top)
      · by_cases q : i = id
        · rw [q, set_got hlg, hg]
        · rw [set_other q]
      · show ((l.map spV).flatMap AV.cells).take (j0 * 2) = _
        rw [ht0, flat_take _ _ (sps_len l) (by rw [List.length_map]; omega), List.map_take]
      · show ((l.map spV).flatMap AV.cells).drop ((j0 + 1) * 2) = _
        rw [flat_drop _ _ (sps_len l) (by rw [List.length_map]; omega), List.map_drop]
      · show j0 = _
        rw [ht0, List.length_take]
        omega
      obtain ⟨G, R, i, j⟩ := z
      obtain ⟨hP, hRl, hij, hjl, hRt, hRd, hil⟩ := hz
      simp only at hP hRl hij hjl hRt hRd hil
      have hGn : H.next ≤ G.next := hP.next
      have hgG : G.get id = some (.row 64 gen R) := (hP.get id hlg).trans (set_got hlg)
      have hlG := G.lt hgG
      simp only [blurR_nil, blurR_some, blurR_none, blurC_region, blurC_regionN, blurC_fregion, blurT_nil, blurT_cons, blurC_seq, blurC_both, blurC_cond, blurC_block, blurC_loop, blurC_skip, blurC_exit, blurC_ret, tellS_nil, tellS_cons, List.set_cons_zero, List.set_cons_succ, tops_zero, tops_succ]
      by_cases d1 : j < l.length
      · have hm := spE_mem d1
        have hd : l.drop j = l.getD j (0, 0) :: l.drop (j + 1) := by rw [List.drop_eq_getElem_cons d1, List.getD_eq_getElem?_getD, List.getElem?_eq_getElem d1]; rfl
        have htk : (l.take (j + 1)).filter (fun x => !p x) = (l.take j).filter (fun x => !p x) ++ (if p (l.getD j (0, 0)) = true then [] else [l.getD j (0, 0)]) := by
          rw [List.take_add_one, List.getElem?_eq_getElem d1, List.filter_append, List.getD_eq_getElem?_getD, List.getElem?_eq_getElem d1]
          congr 1
          simp only [Option.toList, Option.getD_some, List.filter_cons, List.filter_nil]
          cases p l[j] <;> rfl
        have hcm : (R.drop (j * 2)).take 2 = [.int .i64 (l.getD j (0, 0)).1, .int .i64 (l.getD j (0, 0)).2] := by
          rw [hRd, hd]
          rfl
        have hRd2 : R.drop ((j + 1) * 2) = ((l.drop (j + 1)).map spV).flatMap AV.cells := by
          rw [show (j + 1) * 2 = j * 2 + 2 by omega, ← List.drop_drop, hRd, hd]
          rfl
        have hJ2 := fun (G2 : AHeap) (R2 : List AV) (i2 : Nat) p1 p2 (p3 : i2 < j + 1) (p4 : R2.take (i2 * 2) = (((l.take j).filter (fun x => !p x) ++ (if p (l.getD j (0, 0)) = true then [] else [l.getD j (0, 0)])).map spV).flatMap AV.cells) (p5 : R2.drop ((j + 1) * 2) = ((l.drop (j + 1)).map spV).flatMap AV.cells) (p6 : i2 = ((l.take j).filter (fun x => !p x) ++ (if p (l.getD j (0, 0)) = true then [] else [l.getD j (0, 0)])).length) a' => hJ (G2, R2, i2, j + 1) a' ⟨p1, p2, p3, d1, by show R2.take (i2 * 2) = _; rw [p4, htk], p5, by show i2 = _; rw [p6, htk]⟩ (by show l.length - (j + 1) < l.length - j; omega)
        clear hJ
        generalize l.getD j (0, 0) = x at *
        simp (maxSteps := 4000000) (disch := (first | omega | (simp only [set_next, List.length_append, List.length_cons, List.length_nil, List.length_take, List.length_drop, List.length_map, List.length_set, List.length_replicate]; omega) | (simp only [set_next, ne_eq, reduceCtorEq, not_false_eq_true]))) only [hgG, hcm, go_sem, Nat.reduceLeDiff, Nat.reduceAdd, Nat.reduceSub, Nat.reduceMul, Nat.reduceLT, Int.reduceLT, Int.reduceLE, Int.reduceAdd, Int.reduceSub, Int.reduceMul, Int.reduceToNat, Int.reduceNeg, Int.reduceEq, Nat.reducePow, Int.reducePow, Nat.reduceEqDiff, decide_true, decide_false, reduceIte, reduceCtorEq, Int.reduceBEq, Int.reduceBNe, bne_self_eq_false, Int.cast_ofNat_Int, Bool.not_true, Bool.not_false, IntKind.bits, w_nat, w_lit, w_add, w_addl, w_ladd, w_sub, w_subl, w_lsub, w_mul, w_mull, w_lmul, t_div, t_divl, t_mod, t_modl, i_lt, i_ltl, i_llt, i_le, i_lel, i_lle, i_eq, i_eql, i_leq, Nat.zero_le, d_beq, d_bne, d_bytes, byte_at, Int.toNat_natCast, toNat_lit, decide_eq_true, decide_eq_false, if_pos, if_neg, slA_len, slA_idx, slA_cells, flat_slA, one_slA, cells_slA, map_mid, strV_is, hp_get1, hp_get2, hp_get3, hp_set1, hp_set2, hp_set3, hp_old, hp_sold, set_got, set_set, set_next, set_other, bytesL, bytes_all, List.length_map, aapp_nils, aapp_wr, List.flatMap_cons, List.flatMap_nil, Nat.mul_one]
        rw [← spV_is]
        refine hpp x hm _ _ ?_
        cases hpx : p x with
        | true =>
          rw [hpx, if_pos rfl, List.append_nil] at hJ2
          simp (maxSteps := 4000000) (disch := (first | omega | (simp only [set_next, List.length_append, List.length_cons, List.length_nil, List.length_take, List.length_drop, List.length_map, List.length_set, List.length_replicate]; omega) | (simp only [set_next, ne_eq, reduceCtorEq, not_false_eq_true]))) only [go_sem, Nat.reduceLeDiff, Nat.reduceAdd, Nat.reduceSub, Nat.reduceMul, Nat.reduceLT, Int.reduceLT, Int.reduceLE, Int.reduceAdd, Int.reduceSub, Int.reduceMul, Int.reduceToNat, Int.reduceNeg, Int.reduceEq, Nat.reducePow, Int.reducePow, Nat.reduceEqDiff, decide_true, decide_false, reduceIte, reduceCtorEq, Int.reduceBEq, Int.reduceBNe, bne_self_eq_false, Int.cast_ofNat_Int, Bool.not_true, Bool.not_false, IntKind.bits, w_nat, w_lit, w_add, w_addl, w_ladd, w_sub, w_subl, w_lsub, w_mul, w_mull, w_lmul, t_div, t_divl, t_mod, t_modl, i_lt, i_ltl, i_llt, i_le, i_lel, i_lle, i_eq, i_eql, i_leq, Nat.zero_le, d_beq, d_bne, d_bytes, byte_at, Int.toNat_natCast, toNat_lit, decide_eq_true, decide_eq_false, if_pos, if_neg, slA_len, slA_idx, slA_cells, flat_slA, one_slA, cells_slA, map_mid, strV_is, hp_get1, hp_get2, hp_get3, hp_set1, hp_set2, hp_set3, hp_old, hp_sold, set_got, set_set, set_next, set_other, bytesL, bytes_all, List.length_map, aapp_nils, aapp_wr, List.flatMap_cons, List.flatMap_nil, Nat.mul_one]
          rw [← hp_nil (H := hp G _)]
          exact hJ2 _ R i (past_hp hP _) hRl (by omega) hRt hRd2 hil _ (by (simp only [blurR_nil, blurR_some, blurR_none, blurC_region, blurC_regionN, blurC_fregion, blurT_nil, blurT_cons, blurC_seq, blurC_both, blurC_cond, blurC_block, blurC_loop, blurC_skip, blurC_exit, blurC_ret, tellS_nil, tellS_cons, List.set_cons_zero, List.set_cons_succ, tops_zero, tops_succ]; repeat first | exact forget_nil | apply forget_keep | apply forget_top))
        | false =>
          rw [hpx, if_neg Bool.false_ne_true] at hJ2
          simp (maxSteps := 4000000) (disch := (first | omega | (simp only [set_next, List.length_append, List.length_cons, List.length_nil, List.length_take, List.length_drop, List.length_map, List.length_set, List.length_replicate]; omega) | (simp only [set_next, ne_eq, reduceCtorEq, not_false_eq_true]))) only [hgG, go_sem, Nat.reduceLeDiff, Nat.reduceAdd, Nat.reduceSub, Nat.reduceMul, Nat.reduceLT, Int.reduceLT, Int.reduceLE, Int.reduceAdd, Int.reduceSub, Int.reduceMul, Int.reduceToNat, Int.reduceNeg, Int.reduceEq, Nat.reducePow, Int.reducePow, Nat.reduceEqDiff, decide_true, decide_false, reduceIte, reduceCtorEq, Int.reduceBEq, Int.reduceBNe, bne_self_eq_false, Int.cast_ofNat_Int, Bool.not_true, Bool.not_false, IntKind.bits, w_nat, w_lit, w_add, w_addl, w_ladd, w_sub, w_subl, w_lsub, w_mul, w_mull, w_lmul, t_div, t_divl, t_mod, t_modl, i_lt, i_ltl, i_llt, i_le, i_lel, i_lle, i_eq, i_eql, i_leq, Nat.zero_le, d_beq, d_bne, d_bytes, byte_at, Int.toNat_natCast, toNat_lit, decide_eq_true, decide_eq_false, if_pos, if_neg, slA_len, slA_idx, slA_cells, flat_slA, one_slA, cells_slA, map_mid, strV_is, hp_get1, hp_get2, hp_get3, hp_set1, hp_set2, hp_set3, hp_old, hp_sold, set_got, set_set, set_next, set_other, bytesL, bytes_all, List.length_map, aapp_nils, aapp_wr, List.flatMap_cons, List.flatMap_nil, Nat.mul_one]
          rw [← hp_nil (H := hp (G.set id _) _)]
          have hA : (R.take (i * 2)).length = i * 2 := by rw [List.length_take]; omega
          have hAB : (R.take (i * 2) ++ [AV.int .i64 x.1, AV.int .i64 x.2]).length = i * 2 + 2 := by rw [List.length_append, hA]; rfl
          refine hJ2 _ (R.take (i * 2) ++ [.int .i64 x.1, .int .i64 x.2] ++ R.drop (i * 2 + 2)) (i + 1) (past_hp (past_reset hP hlg) _) (by rw [List.length_append, hAB, List.length_drop]; omega) (by omega) ?_ ?_ (by rw [List.length_append, ← hil]; rfl) _ (by (simp only [blurR_nil, blurR_some, blurR_none, blurC_region, blurC_regionN, blurC_fregion, blurT_nil, blurT_cons, blurC_seq, blurC_both, blurC_cond, blurC_block, blurC_loop, blurC_skip, blurC_exit, blurC_ret, tellS_nil, tellS_cons, List.set_cons_zero, List.set_cons_succ, tops_zero, tops_succ]; repeat first | exact forget_nil | apply forget_keep | apply forget_top))
          · rw [show (i + 1) * 2 = i * 2 + 2 by omega, List.take_left' hAB, hRt, List.map_append, List.flatMap_append]
            rfl
          · rw [List.drop_append, List.drop_of_length_le (by omega), List.nil_append, hAB, List.drop_drop, show i * 2 + 2 + ((j + 1) * 2 - (i * 2 + 2)) = (j + 1) * 2 by omega]
            exact hRd2
      · have hj : j = l.length := by omega
        subst hj
        rw [List.take_length] at hRt hil
        have hE : aclear 2 [.int .i64 0, .int .i64 0] (hp G []) (.wr id gen (i * 2) (l.length - i) 2) = some (hp (G.set id (.row 64 gen (R.take (i * 2) ++ (List.replicate (l.length - i) [AV.int .i64 0, AV.int .i64 0]).flatten ++ R.drop (i * 2 + (l.length - i) * 2)))) []) := by
          simp only [aclear, aclearC, hp_nil, hgG]
          rw [if_pos ⟨trivial, trivial, by omega⟩]
        have hR3 : (R.take (i * 2) ++ (List.replicate (l.length - i) [AV.int .i64 0, AV.int .i64 0]).flatten ++ R.drop (i * 2 + (l.length - i) * 2)).take (i * 2) = ((l.filter (fun x => !p x)).map spV).flatMap AV.cells := by
          rw [List.append_assoc, List.take_append_of_le_length (by rw [List.length_take]; omega), List.take_take, Nat.min_self, hRt]
        generalize hR2 : R.take (i * 2) ++ (List.replicate (l.length - i) [AV.int .i64 0, AV.int .i64 0]).flatten ++ R.drop (i * 2 + (l.length - i) * 2) = R2 at *
        simp (maxSteps := 4000000) (disch := (first | omega | (simp only [set_next, List.length_append, List.length_cons, List.length_nil, List.length_take, List.length_drop, List.length_map, List.length_set, List.length_replicate]; omega) | (simp only [set_next, ne_eq, reduceCtorEq, not_false_eq_true]))) only [hgG, hE, Nat.sub_zero, true_or, go_sem, Nat.reduceLeDiff, Nat.reduceAdd, Nat.reduceSub, Nat.reduceMul, Nat.reduceLT, Int.reduceLT, Int.reduceLE, Int.reduceAdd, Int.reduceSub, Int.reduceMul, Int.reduceToNat, Int.reduceNeg, Int.reduceEq, Nat.reducePow, Int.reducePow, Nat.reduceEqDiff, decide_true, decide_false, reduceIte, reduceCtorEq, Int.reduceBEq, Int.reduceBNe, bne_self_eq_false, Int.cast_ofNat_Int, Bool.not_true, Bool.not_false, IntKind.bits, w_nat, w_lit, w_add, w_addl, w_ladd, w_sub, w_subl, w_lsub, w_mul, w_mull, w_lmul, t_div, t_divl, t_mod, t_modl, i_lt, i_ltl, i_llt, i_le, i_lel, i_lle, i_eq, i_eql, i_leq, Nat.zero_le, d_beq, d_bne, d_bytes, byte_at, Int.toNat_natCast, toNat_lit, decide_eq_true, decide_eq_false, if_pos, if_neg, slA_len, slA_idx, slA_cells, flat_slA, one_slA, cells_slA, map_mid, strV_is, hp_get1, hp_get2, hp_get3, hp_set1, hp_set2, hp_set3, hp_old, hp_sold, set_got, set_set, set_next, set_other, bytesL, bytes_all, List.length_map, aapp_nils, aapp_wr, List.flatMap_cons, List.flatMap_nil, Nat.mul_one]
        rw [hp_nil]
        have hP3 := past_reset (R' := R2.take (i * 2)) hP hlg
        have hw3 : (H.set id (.row 64 gen (R2.take (i * 2)))).within H.next := within_set hs (fun c hc => by
          rw [hR3] at hc
          obtain ⟨x, hx, hcx⟩ := List.mem_flatMap.1 hc
          exact sps_u _ _ x hx c hcx)
        refine ⟨(G.set id (.row 64 gen R2)).set id (.row 64 gen (R2.take (i * 2))), .wr id gen 0 i 2, H.next, .cut _ _ _ _ _ _ _ (set_got hlG), Nat.le_refl _, .wr _ _ _ _ _ hlg, ?_, ?_⟩
        · rw [set_set]
          show (G.set id (.row 64 gen (R2.take (i * 2)))).within (H.set id (.row 64 gen (R2.take (i * 2)))).next
          exact past_within hP3 hw3
        · rw [set_set, show (G.set id (.row 64 gen (R2.take (i * 2)))).trunc H.next = H.set id (.row 64 gen (R2.take (i * 2))) from past_trunc hP3]
          refine h _ _ (.inr ⟨id, gen, by rw [List.length_map, hil], hid, by rw [set_got hlg, hR3]⟩) (fun i2 hi2 => set_other (fun e => hi2 gen 0 (l.map spV).length 2 (by rw [e]))) rfl (fun e => by cases e)
end
end Go.Proofs.Ytdknpnmdjjmapaa.AL

