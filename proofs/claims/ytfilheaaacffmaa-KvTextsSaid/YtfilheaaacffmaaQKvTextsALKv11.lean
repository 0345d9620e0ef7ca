/- Pairs told: some taken out of a slice of one's own: the call. -/
import Derived.Test.YtfilheaaacffmaaQKvTextsALKv10
set_option linter.unusedSimpArgs false
set_option linter.unusedVariables false
set_option maxRecDepth 100000
set_option maxHeartbeats 16000000
namespace Go.Proofs.Ytfilheaaacffmaa.AL
open Go Go.Proofs
attribute [local go_sem] go_seq go_skip go_region go_regionN go_fregion rgF_some go_cond go_block go_exit go_ret nxt_nil nxt_code nxt_blk nxt_cut leave_nil leave_code leave_cut leave_blk rtn_nil rtn_code rtn_blk rtn_cut cnd_t cnd_f rgn_nil rgY_some rgY_none rgH_some rgP_some retTo_is rgV_func grd_und grd_tt grd_ff grd_tf grd_ft rgn_q rgn_alloc rgn_box rgn_store rgn_lit rgn_litw litCells_nil litCells_cons rgn_app rgn_copy rgn_mk rgn_s2b rgn_call rgn_callv rgn_stop rgn_slice3 aslice3 rgn_slice3l aslice3l rgn_appz rgn_clear rgn_range rgn_next arange acap rgn_put rgn_mkmap rgn_lookup rgn_mapup alookup_nilm alookup_map amapup_map afound_ok afound_no rgn_c rgn_cv qclV_func aloadr rgn_guard post_ret post_normal retY_some ares aresL ares1 AX.ev aput List.getD_cons_zero List.getD_cons_succ List.set_cons_zero List.set_cons_succ List.map_cons List.map_nil aq abin aint astr abeq aconv asame aextract alenS alenL_nils alenL_emp alenL_imm alenL_wr alenL_wc aun apart aload afieldAddr afield aidxSl_wr aidxSl_wc aidxSl_imm aidxPt aidxStr aidxArr abound asliceStr asliceSl asliceArr abest anonil afill astore acells_nils acells_emp acells_imm acells_wr acells_wc acells_str acopy litAll amk as2b anil nilOf aseq aeqs aeqv fits fit1 hp_next hp_push hp_get hp_set List.length_cons List.length_nil List.getElem?_cons_zero List.getElem?_cons_succ List.cons_append List.nil_append List.append_nil List.take_succ_cons List.take_zero List.drop_succ_cons List.drop_zero List.all_cons List.all_nil Option.map_some Option.some.injEq Bool.and_true Bool.true_and Bool.false_eq_true if_true if_false ite_true ite_false Bool.and_self true_and and_true and_self Nat.zero_add Nat.le_refl Int.toNat_natCast beq_self_eq_true eq_self tops_zero tops_succ Int.natCast_nonneg List.take_nil List.drop_nil Option.map_none flat_bool one_bool cells_bool flat_int one_int cells_int flat_str one_str cells_str flat_nilp one_nilp cells_nilp flat_ptr one_ptr cells_ptr flat_nils one_nils cells_nils flat_imm one_imm cells_imm flat_wr one_wr cells_wr flat_wc one_wc cells_wc flat_func one_func cells_func flat_nilf one_nilf cells_nilf flat_map one_map cells_map flat_nilm one_nilm cells_nilm flat_iface one_iface cells_iface flat_nili one_nili cells_nili flat_rd one_rd cells_rd flat_emp one_emp cells_emp flat_byteV one_byteV cells_byteV flat_agg cells_agg one_agg B_size B_list B_ext B_toList B_app List.take_length Int.le_refl
theorem ixO_spec (p : (List UInt8 × List UInt8) → Bool) : ∀ (xs : List (List UInt8 × List UInt8)) (i : Nat), (ixO p xs i = -1 ∧ ∀ x ∈ xs, p x = false) ∨ ∃ j, ixO p xs i = ((i + j : Nat) : Int) ∧ j < xs.length ∧ p (xs.getD j ([], [])) = true ∧ ∀ x ∈ xs.take j, p x = false
  | [], i => .inl ⟨rfl, fun x h => nomatch h⟩
  | x :: xs, i => by
    rw [ixO]
    by_cases h : p x = true
    · rw [if_pos h]
      exact .inr ⟨0, rfl, by simp, h, fun y hy => nomatch hy⟩
    · rw [if_neg h]
      rw [Bool.not_eq_true] at h
      rcases ixO_spec p xs (i + 1) with ⟨h1, h2⟩ | ⟨j, h1, h2, h3, h4⟩
      · refine .inl ⟨h1, fun y hy => ?_⟩
        rcases List.mem_cons.1 hy with rfl | e
        · exact h
        · exact h2 y e
      · refine .inr ⟨j + 1, by rw [h1]; omega, by rw [List.length_cons]; omega, h3, fun y hy => ?_⟩
        rw [List.take_succ_cons] at hy
        rcases List.mem_cons.1 hy with rfl | e
        · exact h
        · exact h4 y e
theorem filter_self {p : (List UInt8 × List UInt8) → Bool} {l : List (List UInt8 × List UInt8)} (h : ∀ x ∈ l, p x = false) : l.filter (fun x => !p x) = l := by
  rw [List.filter_eq_self]
  intro x hx
  rw [h x hx]
  rfl
theorem past_reset {H G : AHeap} {id gen : Nat} {e : TypeId} {R R' : List AV} (h : Past (H.set id (.row e gen R)) G) (hid : id < H.next) : Past (H.set id (.row e gen R')) (G.set id (.row e gen R')) := by
  have hn : H.next ≤ G.next := h.next
  refine ⟨hn, fun i hi => ?_⟩
  have hi : i < H.next := hi
  by_cases q : i = id
  · rw [q, set_got (by omega), set_got hid]
  · rw [set_other q, set_other q, h.get i hi, set_other q]
section
variable {H : AHeap} {K : AV → AHeap → Prop}
theorem deleteFunc_a {n0 : Nat} {v : AV} {l : List (List UInt8 × List UInt8)} {p : (List UInt8 × List UInt8) → Bool} {f cid : Nat} {crow : AObj} {cs : List AV} (hv : SlAt n0 H 94 2 v (l.map prV)) (hn : l.length ≤ 100000)
    (hc : H.get cid = some crow) (hcv : ∀ gen off len sz, v ≠ .wr cid gen off len sz)
    (hpp : ∀ x ∈ l, ∀ (G : AHeap) (K : AV → AHeap → Prop), G.get cid = some crow → K (.bool (p x)) G → (ACalls Try.prog) f ([] ++ [prV x] ++ cs) G K)
    (h : ∀ v' G, SlAt n0 G 94 2 v' ((l.filter (fun x => !p x)).map prV) → (∀ i, (∀ gen off len sz, v ≠ .wr i gen off len sz) → G.get i = H.get i) → G.next = H.next → (v' = .nils → v = .nils) → K v' G) :
    (ACalls Try.prog) 121 [v, .func (.func f) [] cs] H K := by
  refine acalls_go mo t121 (fun hs hu => ?_)
  simp only [c121, go_sem, Nat.reduceLeDiff, Nat.reduceAdd, Nat.reduceSub, Nat.reduceMul, Nat.reduceLT, Int.reduceLT, Int.reduceLE, Int.reduceAdd, Int.reduceSub, Int.reduceMul, Int.reduceToNat, Int.reduceNeg, Int.reduceEq, Nat.reducePow, Int.reducePow, Nat.reduceEqDiff, decide_true, decide_false, reduceIte, reduceCtorEq, Int.reduceBEq, Int.reduceBNe, bne_self_eq_false, Int.cast_ofNat_Int, Bool.not_true, Bool.not_false, IntKind.bits]
  refine kindexO_a (slat_hp hv []) hn (fun x hx K hk => hpp x hx _ K (by rw [hp_nil]; exact hc) hk) ?_
  rcases ixO_spec p l 0 with ⟨h1, h2⟩ | ⟨j0, h1, h2, h3, h4⟩
  · have hx := h v H (by rw [filter_self h2]; exact hv) (fun _ _ => rfl) rfl (fun e => e)
    rw [h1]
    simp (maxSteps := 4000000) (disch := (first | omega | (simp only [set_next, List.length_append, List.length_cons, List.length_nil, List.length_take, List.length_drop, List.length_map, List.length_set, List.length_replicate]; omega) | (simp only [set_next, ne_eq, reduceCtorEq, not_false_eq_true]))) only [go_sem, Nat.reduceLeDiff, Nat.reduceAdd, Nat.reduceSub, Nat.reduceMul, Nat.reduceLT, Int.reduceLT, Int.reduceLE, Int.reduceAdd, Int.reduceSub, Int.reduceMul, Int.reduceToNat, Int.reduceNeg, Int.reduceEq, Nat.reducePow, Int.reducePow, Nat.reduceEqDiff, decide_true, decide_false, reduceIte, reduceCtorEq, Int.reduceBEq, Int.reduceBNe, bne_self_eq_false, Int.cast_ofNat_Int, Bool.not_true, Bool.not_false, IntKind.bits, w_nat, w_lit, w_add, w_addl, w_ladd, w_sub, w_subl, w_lsub, w_mul, w_mull, w_lmul, t_div, t_divl, t_mod, t_modl, i_lt, i_ltl, i_llt, i_le, i_lel, i_lle, i_eq, i_eql, i_leq, Nat.zero_le, d_beq, d_bne, d_bytes, byte_at, Int.toNat_natCast, toNat_lit, decide_eq_true, decide_eq_false, if_pos, if_neg, slA_len, slA_idx, slA_cells, flat_slA, one_slA, cells_slA, map_mid, strV_is, hp_get1, hp_get2, hp_get3, hp_set1, hp_set2, hp_set3, hp_old, hp_sold, set_got, set_set, set_next, set_other, bytesL, bytes_all, List.length_map, aapp_nils, aapp_wr, List.flatMap_cons, List.flatMap_nil, Nat.mul_one]
    rw [hp_nil]
    exact aret_full (Nat.le_refl _) hs (slat_under hv) hx
  · rw [h1, Nat.zero_add]
    rcases hv with ⟨rfl, he⟩ | ⟨id, gen, rfl, hid, hg⟩
    · have hl : l = [] := by simpa using he
      subst hl
      exact absurd h2 (Nat.not_lt_zero _)
    · have hlg := H.lt hg
      have hcid : cid ≠ id := fun e => hcv gen 0 (l.map prV).length 2 (by rw [e])
      have hfl := flat_length _ _ (prs_len l)
      rw [List.length_map] at hfl ⊢
      have ht0 : (l.take (j0 + 1)).filter (fun x => !p x) = l.take j0 := by
        rw [List.take_add_one, List.filter_append, filter_self h4, List.getElem?_eq_getElem h2]
        have : p l[j0] = true := by
          rw [List.getD_eq_getElem?_getD, List.getElem?_eq_getElem h2] at h3
          exact h3
        simp [this]
      simp (maxSteps := 4000000) (disch := (first | omega | (simp only [set_next, List.length_append, List.length_cons, List.length_nil, List.length_take, List.length_drop, List.length_map, List.length_set, List.length_replicate]; omega) | (simp only [set_next, ne_eq, reduceCtorEq, not_false_eq_true]))) only [go_sem, Nat.reduceLeDiff, Nat.reduceAdd, Nat.reduceSub, Nat.reduceMul, Nat.reduceLT, Int.reduceLT, Int.reduceLE, Int.reduceAdd, Int.reduceSub, Int.reduceMul, Int.reduceToNat, Int.reduceNeg, Int.reduceEq, Nat.reducePow, Int.reducePow, Nat.reduceEqDiff, decide_true, decide_false, reduceIte, reduceCtorEq, Int.reduceBEq, Int.reduceBNe, bne_self_eq_false, Int.cast_ofNat_Int, Bool.not_true, Bool.not_false, IntKind.bits, w_nat, w_lit, w_add, w_addl, w_ladd, w_sub, w_subl, w_lsub, w_mul, w_mull, w_lmul, t_div, t_divl, t_mod, t_modl, i_lt, i_ltl, i_llt, i_le, i_lel, i_lle, i_eq, i_eql, i_leq, Nat.zero_le, d_beq, d_bne, d_bytes, byte_at, Int.toNat_natCast, toNat_lit, decide_eq_true, decide_eq_false, if_pos, if_neg, slA_len, slA_idx, slA_cells, flat_slA, one_slA, cells_slA, map_mid, strV_is, hp_get1, hp_get2, hp_get3, hp_set1, hp_set2, hp_set3, hp_old, hp_sold, set_got, set_set, set_next, set_other, bytesL, bytes_all, List.length_map, aapp_nils, aapp_wr, List.flatMap_cons, List.flatMap_nil, Nat.mul_one]
      refine go_loopS mono (σ := AHeap × List AV × Nat × Nat) (fun z => [(5, .int .i64 (z.2.2.1 : Int)), (6, .int .i64 (z.2.2.2 : Int))]) (fun z => hp z.1 []) (fun z => Past (H.set id (.row 94 gen z.2.1)) z.1 ∧ z.2.1.length = l.length * 2 ∧ z.2.2.1 < z.2.2.2 ∧ z.2.2.2 ≤ l.length ∧ z.2.1.take (z.2.2.1 * 2) = (((l.take z.2.2.2).filter (fun x => !p x)).map prV).flatMap AV.cells ∧ z.2.1.drop (z.2.2.2 * 2) = ((l.drop z.2.2.2).map prV).flatMap AV.cells ∧ z.2.2.1 = ((l.take z.2.2.2).filter (fun x => !p x)).length) (fun z => l.length - z.2.2.2) (H, (l.map prV).flatMap AV.cells, j0, j0 + 1) ?_ rfl ⟨⟨Nat.le_refl _, fun i hi => ?_⟩, hfl, Nat.lt_succ_self _, h2, ?_, ?_, ?_⟩ (fun z hz J hJ => ?_)
      · (simp only [blurR_nil, blurR_some, blurR_none, blurC_region, blurC_regionN, blurC_fregion, blurT_nil, blurT_cons, blurC_seq, blurC_cond, blurC_block, blurC_loop, blurC_skip, blurC_exit, blurC_ret, tellS_nil, tellS_cons, List.set_cons_zero, List.set_cons_succ, tops_zero, tops_succ]; repeat first | exact forget_nil | apply forget_keep | apply forget_top)
      · by_cases q : i = id
        · rw [q, set_got hlg, hg]
        · rw [set_other q]
      · show ((l.map prV).flatMap AV.cells).take (j0 * 2) = _
        rw [ht0, flat_take _ _ (prs_len l) (by rw [List.length_map]; omega), List.map_take]
      · show ((l.map prV).flatMap AV.cells).drop ((j0 + 1) * 2) = _
        rw [flat_drop _ _ (prs_len l) (by rw [List.length_map]; omega), List.map_drop]
      · show j0 = _
        rw [ht0, List.length_take]
        omega
      obtain ⟨G, R, i, j⟩ := z
      obtain ⟨hP, hRl, hij, hjl, hRt, hRd, hil⟩ := hz
      simp only at hP hRl hij hjl hRt hRd hil
      have hGn : H.next ≤ G.next := hP.next
      have hgG : G.get id = some (.row 94 gen R) := (hP.get id hlg).trans (set_got hlg)
      have hcG : G.get cid = some crow := (hP.get cid (H.lt hc)).trans ((set_other hcid).trans hc)
      have hlG := G.lt hgG
      have hlC := G.lt hcG
      simp only [blurR_nil, blurR_some, blurR_none, blurC_region, blurC_regionN, blurC_fregion, blurT_nil, blurT_cons, blurC_seq, blurC_cond, blurC_block, blurC_loop, blurC_skip, blurC_exit, blurC_ret, tellS_nil, tellS_cons, List.set_cons_zero, List.set_cons_succ, tops_zero, tops_succ]
      by_cases d1 : j < l.length
      · have hm := pr_mem d1
        have hd : l.drop j = l.getD j ([], []) :: l.drop (j + 1) := by rw [List.drop_eq_getElem_cons d1, List.getD_eq_getElem?_getD, List.getElem?_eq_getElem d1]; rfl
        have htk : (l.take (j + 1)).filter (fun x => !p x) = (l.take j).filter (fun x => !p x) ++ (if p (l.getD j ([], [])) = true then [] else [l.getD j ([], [])]) := by
          rw [List.take_add_one, List.getElem?_eq_getElem d1, List.filter_append, List.getD_eq_getElem?_getD, List.getElem?_eq_getElem d1]
          congr 1
          simp only [Option.toList, Option.getD_some, List.filter_cons, List.filter_nil]
          cases p l[j] <;> rfl
        have hcm : (R.drop (j * 2)).take 2 = [.str (B (l.getD j ([], [])).1), .str (B (l.getD j ([], [])).2)] := by
          rw [hRd, hd]
          rfl
        have hRd2 : R.drop ((j + 1) * 2) = ((l.drop (j + 1)).map prV).flatMap AV.cells := by
          rw [show (j + 1) * 2 = j * 2 + 2 by omega, ← List.drop_drop, hRd, hd]
          rfl
        have hJ2 := fun (G2 : AHeap) (R2 : List AV) (i2 : Nat) p1 p2 (p3 : i2 < j + 1) (p4 : R2.take (i2 * 2) = (((l.take j).filter (fun x => !p x) ++ (if p (l.getD j ([], [])) = true then [] else [l.getD j ([], [])])).map prV).flatMap AV.cells) (p5 : R2.drop ((j + 1) * 2) = ((l.drop (j + 1)).map prV).flatMap AV.cells) (p6 : i2 = ((l.take j).filter (fun x => !p x) ++ (if p (l.getD j ([], [])) = true then [] else [l.getD j ([], [])])).length) a' => hJ (G2, R2, i2, j + 1) a' ⟨p1, p2, p3, d1, by show R2.take (i2 * 2) = _; rw [p4, htk], p5, by show i2 = _; rw [p6, htk]⟩ (by show l.length - (j + 1) < l.length - j; omega)
        clear hJ
        generalize l.getD j ([], []) = x at *
        simp (maxSteps := 4000000) (disch := (first | omega | (simp only [set_next, List.length_append, List.length_cons, List.length_nil, List.length_take, List.length_drop, List.length_map, List.length_set, List.length_replicate]; omega) | (simp only [set_next, ne_eq, reduceCtorEq, not_false_eq_true]))) only [hgG, hcm, go_sem, Nat.reduceLeDiff, Nat.reduceAdd, Nat.reduceSub, Nat.reduceMul, Nat.reduceLT, Int.reduceLT, Int.reduceLE, Int.reduceAdd, Int.reduceSub, Int.reduceMul, Int.reduceToNat, Int.reduceNeg, Int.reduceEq, Nat.reducePow, Int.reducePow, Nat.reduceEqDiff, decide_true, decide_false, reduceIte, reduceCtorEq, Int.reduceBEq, Int.reduceBNe, bne_self_eq_false, Int.cast_ofNat_Int, Bool.not_true, Bool.not_false, IntKind.bits, w_nat, w_lit, w_add, w_addl, w_ladd, w_sub, w_subl, w_lsub, w_mul, w_mull, w_lmul, t_div, t_divl, t_mod, t_modl, i_lt, i_ltl, i_llt, i_le, i_lel, i_lle, i_eq, i_eql, i_leq, Nat.zero_le, d_beq, d_bne, d_bytes, byte_at, Int.toNat_natCast, toNat_lit, decide_eq_true, decide_eq_false, if_pos, if_neg, slA_len, slA_idx, slA_cells, flat_slA, one_slA, cells_slA, map_mid, strV_is, hp_get1, hp_get2, hp_get3, hp_set1, hp_set2, hp_set3, hp_old, hp_sold, set_got, set_set, set_next, set_other, bytesL, bytes_all, List.length_map, aapp_nils, aapp_wr, List.flatMap_cons, List.flatMap_nil, Nat.mul_one]
        rw [← prV_is]
        refine hpp x hm _ _ ((hp_old hlC).trans hcG) ?_
        cases hpx : p x with
        | true =>
          rw [hpx, if_pos rfl, List.append_nil] at hJ2
          simp (maxSteps := 4000000) (disch := (first | omega | (simp only [set_next, List.length_append, List.length_cons, List.length_nil, List.length_take, List.length_drop, List.length_map, List.length_set, List.length_replicate]; omega) | (simp only [set_next, ne_eq, reduceCtorEq, not_false_eq_true]))) only [go_sem, Nat.reduceLeDiff, Nat.reduceAdd, Nat.reduceSub, Nat.reduceMul, Nat.reduceLT, Int.reduceLT, Int.reduceLE, Int.reduceAdd, Int.reduceSub, Int.reduceMul, Int.reduceToNat, Int.reduceNeg, Int.reduceEq, Nat.reducePow, Int.reducePow, Nat.reduceEqDiff, decide_true, decide_false, reduceIte, reduceCtorEq, Int.reduceBEq, Int.reduceBNe, bne_self_eq_false, Int.cast_ofNat_Int, Bool.not_true, Bool.not_false, IntKind.bits, w_nat, w_lit, w_add, w_addl, w_ladd, w_sub, w_subl, w_lsub, w_mul, w_mull, w_lmul, t_div, t_divl, t_mod, t_modl, i_lt, i_ltl, i_llt, i_le, i_lel, i_lle, i_eq, i_eql, i_leq, Nat.zero_le, d_beq, d_bne, d_bytes, byte_at, Int.toNat_natCast, toNat_lit, decide_eq_true, decide_eq_false, if_pos, if_neg, slA_len, slA_idx, slA_cells, flat_slA, one_slA, cells_slA, map_mid, strV_is, hp_get1, hp_get2, hp_get3, hp_set1, hp_set2, hp_set3, hp_old, hp_sold, set_got, set_set, set_next, set_other, bytesL, bytes_all, List.length_map, aapp_nils, aapp_wr, List.flatMap_cons, List.flatMap_nil, Nat.mul_one]
          rw [← hp_nil (H := hp G _)]
          exact hJ2 _ R i (past_hp hP _) hRl (by omega) hRt hRd2 hil _ (by (simp only [blurR_nil, blurR_some, blurR_none, blurC_region, blurC_regionN, blurC_fregion, blurT_nil, blurT_cons, blurC_seq, blurC_cond, blurC_block, blurC_loop, blurC_skip, blurC_exit, blurC_ret, tellS_nil, tellS_cons, List.set_cons_zero, List.set_cons_succ, tops_zero, tops_succ]; repeat first | exact forget_nil | apply forget_keep | apply forget_top))
        | false =>
          rw [hpx, if_neg Bool.false_ne_true] at hJ2
          simp (maxSteps := 4000000) (disch := (first | omega | (simp only [set_next, List.length_append, List.length_cons, List.length_nil, List.length_take, List.length_drop, List.length_map, List.length_set, List.length_replicate]; omega) | (simp only [set_next, ne_eq, reduceCtorEq, not_false_eq_true]))) only [hgG, go_sem, Nat.reduceLeDiff, Nat.reduceAdd, Nat.reduceSub, Nat.reduceMul, Nat.reduceLT, Int.reduceLT, Int.reduceLE, Int.reduceAdd, Int.reduceSub, Int.reduceMul, Int.reduceToNat, Int.reduceNeg, Int.reduceEq, Nat.reducePow, Int.reducePow, Nat.reduceEqDiff, decide_true, decide_false, reduceIte, reduceCtorEq, Int.reduceBEq, Int.reduceBNe, bne_self_eq_false, Int.cast_ofNat_Int, Bool.not_true, Bool.not_false, IntKind.bits, w_nat, w_lit, w_add, w_addl, w_ladd, w_sub, w_subl, w_lsub, w_mul, w_mull, w_lmul, t_div, t_divl, t_mod, t_modl, i_lt, i_ltl, i_llt, i_le, i_lel, i_lle, i_eq, i_eql, i_leq, Nat.zero_le, d_beq, d_bne, d_bytes, byte_at, Int.toNat_natCast, toNat_lit, decide_eq_true, decide_eq_false, if_pos, if_neg, slA_len, slA_idx, slA_cells, flat_slA, one_slA, cells_slA, map_mid, strV_is, hp_get1, hp_get2, hp_get3, hp_set1, hp_set2, hp_set3, hp_old, hp_sold, set_got, set_set, set_next, set_other, bytesL, bytes_all, List.length_map, aapp_nils, aapp_wr, List.flatMap_cons, List.flatMap_nil, Nat.mul_one]
          rw [← hp_nil (H := hp (G.set id _) _)]
          have hA : (R.take (i * 2)).length = i * 2 := by rw [List.length_take]; omega
          have hAB : (R.take (i * 2) ++ [AV.str (B x.1), AV.str (B x.2)]).length = i * 2 + 2 := by rw [List.length_append, hA]; rfl
          refine hJ2 _ (R.take (i * 2) ++ [.str (B x.1), .str (B x.2)] ++ R.drop (i * 2 + 2)) (i + 1) (past_hp (past_reset hP hlg) _) (by rw [List.length_append, hAB, List.length_drop]; omega) (by omega) ?_ ?_ (by rw [List.length_append, ← hil]; rfl) _ (by (simp only [blurR_nil, blurR_some, blurR_none, blurC_region, blurC_regionN, blurC_fregion, blurT_nil, blurT_cons, blurC_seq, blurC_cond, blurC_block, blurC_loop, blurC_skip, blurC_exit, blurC_ret, tellS_nil, tellS_cons, List.set_cons_zero, List.set_cons_succ, tops_zero, tops_succ]; repeat first | exact forget_nil | apply forget_keep | apply forget_top))
          · rw [show (i + 1) * 2 = i * 2 + 2 by omega, List.take_left' hAB, hRt, List.map_append, List.flatMap_append]
            rfl
          · rw [List.drop_append, List.drop_of_length_le (by omega), List.nil_append, hAB, List.drop_drop, show i * 2 + 2 + ((j + 1) * 2 - (i * 2 + 2)) = (j + 1) * 2 by omega]
            exact hRd2
      · have hj : j = l.length := by omega
        subst hj
        rw [List.take_length] at hRt hil
        have hE : aclear 2 [.str (B []), .str (B [])] (hp G []) (.wr id gen (i * 2) (l.length - i) 2) = some (hp (G.set id (.row 94 gen (R.take (i * 2) ++ (List.replicate (l.length - i) [AV.str (B []), AV.str (B [])]).flatten ++ R.drop (i * 2 + (l.length - i) * 2)))) []) := by
          simp only [aclear, aclearC, hp_nil, hgG]
          rw [if_pos ⟨trivial, trivial, by omega⟩]
        have hR3 : (R.take (i * 2) ++ (List.replicate (l.length - i) [AV.str (B []), AV.str (B [])]).flatten ++ R.drop (i * 2 + (l.length - i) * 2)).take (i * 2) = ((l.filter (fun x => !p x)).map prV).flatMap AV.cells := by
          rw [List.append_assoc, List.take_append_of_le_length (by rw [List.length_take]; omega), List.take_take, Nat.min_self, hRt]
        generalize hR2 : R.take (i * 2) ++ (List.replicate (l.length - i) [AV.str (B []), AV.str (B [])]).flatten ++ R.drop (i * 2 + (l.length - i) * 2) = R2 at *
        simp (maxSteps := 4000000) (disch := (first | omega | (simp only [set_next, List.length_append, List.length_cons, List.length_nil, List.length_take, List.length_drop, List.length_map, List.length_set, List.length_replicate]; omega) | (simp only [set_next, ne_eq, reduceCtorEq, not_false_eq_true]))) only [hgG, hE, Nat.sub_zero, true_or, go_sem, Nat.reduceLeDiff, Nat.reduceAdd, Nat.reduceSub, Nat.reduceMul, Nat.reduceLT, Int.reduceLT, Int.reduceLE, Int.reduceAdd, Int.reduceSub, Int.reduceMul, Int.reduceToNat, Int.reduceNeg, Int.reduceEq, Nat.reducePow, Int.reducePow, Nat.reduceEqDiff, decide_true, decide_false, reduceIte, reduceCtorEq, Int.reduceBEq, Int.reduceBNe, bne_self_eq_false, Int.cast_ofNat_Int, Bool.not_true, Bool.not_false, IntKind.bits, w_nat, w_lit, w_add, w_addl, w_ladd, w_sub, w_subl, w_lsub, w_mul, w_mull, w_lmul, t_div, t_divl, t_mod, t_modl, i_lt, i_ltl, i_llt, i_le, i_lel, i_lle, i_eq, i_eql, i_leq, Nat.zero_le, d_beq, d_bne, d_bytes, byte_at, Int.toNat_natCast, toNat_lit, decide_eq_true, decide_eq_false, if_pos, if_neg, slA_len, slA_idx, slA_cells, flat_slA, one_slA, cells_slA, map_mid, strV_is, hp_get1, hp_get2, hp_get3, hp_set1, hp_set2, hp_set3, hp_old, hp_sold, set_got, set_set, set_next, set_other, bytesL, bytes_all, List.length_map, aapp_nils, aapp_wr, List.flatMap_cons, List.flatMap_nil, Nat.mul_one]
        rw [hp_nil]
        have hP3 := past_reset (R' := R2.take (i * 2)) hP hlg
        have hw3 : (H.set id (.row 94 gen (R2.take (i * 2)))).within H.next := within_set hs (fun c hc => by
          rw [hR3] at hc
          obtain ⟨x, hx, hcx⟩ := List.mem_flatMap.1 hc
          exact prs_u _ _ x hx c hcx)
        refine ⟨(G.set id (.row 94 gen R2)).set id (.row 94 gen (R2.take (i * 2))), .wr id gen 0 i 2, H.next, .cut _ _ _ _ _ _ _ (set_got hlG), Nat.le_refl _, .wr _ _ _ _ _ hlg, ?_, ?_⟩
        · rw [set_set]
          show (G.set id (.row 94 gen (R2.take (i * 2)))).within (H.set id (.row 94 gen (R2.take (i * 2)))).next
          exact past_within hP3 hw3
        · rw [set_set, show (G.set id (.row 94 gen (R2.take (i * 2)))).trunc H.next = H.set id (.row 94 gen (R2.take (i * 2))) from past_trunc hP3]
          refine h _ _ (.inr ⟨id, gen, by rw [List.length_map, hil], hid, by rw [set_got hlg, hR3]⟩) (fun i2 hi2 => set_other (fun e => hi2 gen 0 (l.map prV).length 2 (by rw [e]))) rfl (fun e => by cases e)
end
end Go.Proofs.Ytfilheaaacffmaa.AL

