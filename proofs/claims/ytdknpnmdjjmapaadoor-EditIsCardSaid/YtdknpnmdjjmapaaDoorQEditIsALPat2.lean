/- Paths told: kids, nodes and properties that the program finds. -/
import Derived.Test.YtdknpnmdjjmapaaDoorQEditIsALPath1
import Derived.Test.YtdknpnmdjjmapaaDoorQEditIsALMT8
import Derived.Test.YtdknpnmdjjmapaaDoorQEditIsALTree1
import Derived.Test.YtdknpnmdjjmapaaDoorQEditIsALA4
set_option linter.unusedSimpArgs false
set_option linter.unusedVariables false
set_option maxRecDepth 100000
set_option maxHeartbeats 16000000
namespace Go.Proofs.YtdknpnmdjjmapaaDoor.AL
open Go Go.Proofs
attribute [local go_sem] go_seq go_skip go_region go_regionN go_fregion rgF_some go_cond go_block go_exit go_ret nxt_nil nxt_code nxt_blk nxt_cut leave_nil leave_code leave_cut leave_blk rtn_nil rtn_code rtn_blk rtn_cut cnd_t cnd_f rgn_nil rgY_some rgY_none rgH_some rgP_some retTo_is rgV_func grd_und grd_tt grd_ff grd_tf grd_ft rgn_q rgn_alloc rgn_box rgn_store rgn_lit rgn_litw litCells_nil litCells_cons rgn_app rgn_copy rgn_mk rgn_s2b rgn_call rgn_callv rgn_stop rgn_slice3 aslice3 rgn_slice3l aslice3l rgn_appz rgn_clear rgn_range rgn_next arange acap rgn_put rgn_mkmap rgn_lookup rgn_mapup alookup_nilm alookup_map amapup_map afound_ok afound_no rgn_c rgn_cv qclV_func aloadr rgn_guard post_ret post_normal retY_some ares aresL ares1 AX.ev aput List.getD_cons_zero List.getD_cons_succ List.set_cons_zero List.set_cons_succ List.map_cons List.map_nil aq abin aint astr abeq aconv asame aextract alenS alenL_nils alenL_emp alenL_imm alenL_wr alenL_wc aun apart aload afieldAddr afield aidxSl_wr aidxSl_wc aidxSl_imm aidxPt aidxStr aidxArr abound asliceStr asliceSl asliceArr abest anonil afill astore acells_nils acells_emp acells_imm acells_wr acells_wc acells_str acopy litAll amk as2b anil nilOf aseq aeqs aeqv fits fit1 hp_next hp_push hp_get hp_set List.length_cons List.length_nil List.getElem?_cons_zero List.getElem?_cons_succ List.cons_append List.nil_append List.append_nil List.take_succ_cons List.take_zero List.drop_succ_cons List.drop_zero List.all_cons List.all_nil Option.map_some Option.some.injEq Bool.and_true Bool.true_and Bool.false_eq_true if_true if_false ite_true ite_false Bool.and_self true_and and_true and_self Nat.zero_add Nat.le_refl Int.toNat_natCast beq_self_eq_true eq_self tops_zero tops_succ Int.natCast_nonneg List.take_nil List.drop_nil Option.map_none flat_bool one_bool cells_bool flat_int one_int cells_int flat_str one_str cells_str flat_nilp one_nilp cells_nilp flat_ptr one_ptr cells_ptr flat_nils one_nils cells_nils flat_imm one_imm cells_imm flat_wr one_wr cells_wr flat_wc one_wc cells_wc flat_func one_func cells_func flat_nilf one_nilf cells_nilf flat_map one_map cells_map flat_nilm one_nilm cells_nilm flat_iface one_iface cells_iface flat_nili one_nili cells_nili flat_rd one_rd cells_rd flat_emp one_emp cells_emp flat_byteV one_byteV cells_byteV flat_agg cells_agg one_agg B_size B_list B_ext B_toList B_app List.take_length Int.le_refl
theorem TrOk_0 : TrOk tr0 := .mk [] 0 [] 0 [] (by simp) (by simp) (by simp) (by simp) (by simp)
section
variable {H : AHeap} {K : AV → AHeap → Prop}
theorem nindex_a {k : Nat} {ls : List Tr} {p : Tr → Bool} {f : Nat} {fs cs : List AV} (hn : ls.length ≤ 9223372036854775807)
    (hpp : ∀ x ∈ ls, ∀ K : AV → AHeap → Prop, K (.bool (p x)) H → (ACalls Tryd.prog) f (fs ++ [x.V] ++ cs) H K) (h : K (.int .i64 (ixOf p ls 0)) H) :
    (ACalls Tryd.prog) 42 [slA k 3 (ls.map Tr.V), .func (.func f) fs cs] H K := by
  refine acalls_go mo t42 (fun hs hu => ?_)
  simp only [c42, go_sem, Nat.reduceLeDiff, Nat.reduceAdd, Nat.reduceSub, Nat.reduceMul, Nat.reduceLT, Int.reduceLT, Int.reduceLE, Int.reduceAdd, Int.reduceSub, Int.reduceMul, Int.reduceToNat, Int.reduceNeg, Int.reduceEq, Nat.reducePow, Int.reducePow, Nat.reduceEqDiff, decide_true, decide_false, reduceIte, reduceCtorEq, Int.reduceBEq, Int.reduceBNe, bne_self_eq_false, Int.cast_ofNat_Int, Bool.not_true, Bool.not_false, IntKind.bits]
  refine stp0 ?_
  refine go_loopS mono (σ := Nat) (fun i => [(8, .int .i64 (i : Int))]) (fun i => hp H []) (fun i => i ≤ ls.length ∧ ixOf p (ls.drop i) i = ixOf p ls 0) (fun i => ls.length - i) 0 ?_ rfl ⟨by omega, rfl⟩ (fun i hi J hJ => ?_)
  · exact fgt
  obtain ⟨hil, hid⟩ := hi
  simp only [blurR_nil, blurR_some, blurR_none, blurC_region, blurC_regionN, blurC_fregion, blurT_nil, blurT_cons, blurC_seq, blurC_both, blurC_cond, blurC_block, blurC_loop, blurC_skip, blurC_exit, blurC_ret, tellS_nil, tellS_cons, List.set_cons_zero, List.set_cons_succ, tops_zero, tops_succ]
  by_cases h1 : i < ls.length
  · have ha := tr_at h1
    have hm := tr_mem h1
    rw [ixOf_drop p ls i tr0 h1] at hid
    generalize ls.getD i tr0 = x at *
    have hVc := Tr.V_cells x
    have hVi := Tr.V_is x
    refine stp (And.intro ha hVc) ?_
    rw [← hVi, hp_nil]
    refine hpp _ hm _ ?_
    rw [← hp_nil (H := H)]
    cases h2 : p x with
    | true =>
      rw [if_pos h2] at hid
      rw [← hid] at h
      refine stp0 ?_
      exact aret_u hs (h)
    | false =>
      rw [if_neg (by rw [h2]; exact Bool.false_ne_true)] at hid
      refine stp0 ?_
      exact hJ (i + 1) _ ⟨h1, hid⟩ (by omega) fgt
  · rw [List.drop_of_length_le (by omega)] at hid
    rw [← hid] at h
    refine stp0 ?_
    exact aret_u hs (h)
theorem kid1_a {id : Nat} {n : List UInt8} {x : Tr} (hg : H.get id = some (.row 9 0 [.str (B n)])) (h : K (.bool (nameIs n x)) H) : (ACalls Tryd.prog) 58 [x.V, .ptr id 0 0] H K := by
  refine acalls_go mo t58 (fun hs hu => ?_)
  have hlt := H.lt hg
  unfold nameIs at h
  simp only [c58, Tr.V_is, go_sem, Nat.reduceLeDiff, Nat.reduceAdd, Nat.reduceSub, Nat.reduceMul, Nat.reduceLT, Int.reduceLT, Int.reduceLE, Int.reduceAdd, Int.reduceSub, Int.reduceMul, Int.reduceToNat, Int.reduceNeg, Int.reduceEq, Nat.reducePow, Int.reducePow, Nat.reduceEqDiff, decide_true, decide_false, reduceIte, reduceCtorEq, Int.reduceBEq, Int.reduceBNe, bne_self_eq_false, Int.cast_ofNat_Int, Bool.not_true, Bool.not_false, IntKind.bits]
  refine stp (And.intro hg @B_toList) ?_
  exact aret_u hs (h)
theorem foundV_s (k : Tr) : foundV (some k) = .tup [.agg [.str (B k.name), slA k.kp 2 (k.props.map propV), slA k.kk 3 (k.kids.map Tr.V)], .bool true] := by
  rw [← Tr.V_is k]
  rfl
theorem foundV_n : foundV none = .tup [.agg [.str (B []), .nils, .nils], .bool false] := rfl
theorem Kid_a {t : Tr} (ho : TrOk t) {n : List UInt8} (h : K (foundV (kidT t n)) H) : (ACalls Tryd.prog) 38 [t.V, .str (B n)] H K := by
  refine acalls_go mo t38 (fun hs hu => ?_)
  have hkl := ho.k
  unfold kidT at h
  simp only [c38, Tr.V_is, go_sem, Nat.reduceLeDiff, Nat.reduceAdd, Nat.reduceSub, Nat.reduceMul, Nat.reduceLT, Int.reduceLT, Int.reduceLE, Int.reduceAdd, Int.reduceSub, Int.reduceMul, Int.reduceToNat, Int.reduceNeg, Int.reduceEq, Nat.reducePow, Int.reducePow, Nat.reduceEqDiff, decide_true, decide_false, reduceIte, reduceCtorEq, Int.reduceBEq, Int.reduceBNe, bne_self_eq_false, Int.cast_ofNat_Int, Bool.not_true, Bool.not_false, IntKind.bits]
  refine nindex_a (ls := t.kids) (p := nameIs n) hkl (fun x hx K hk => kid1_a (hp_get _ _ 1) hk) ?_
  rcases ixOf_find (nameIs n) tr0 t.kids 0 with ⟨h1, h2⟩ | ⟨j, h1, h2, h3⟩
  · rw [h1, foundV_n] at h
    rw [h2]
    refine stp @trRow_is ?_
    exact aret_plain hs (by simp only [u_top, u_bool, u_int, u_str, u_nilp, u_nils, u_nilf, u_nilm, u_nili, u_emp, u_byteV, u_ptr, u_wr, u_wc, u_agg, u_tup, u_rd, u_imm, u_func, u_nil, u_cons, u_app, uc_nil, uc_cons, uc_app, u_bytes, uc_bytes, u_ints, uc_ints, cells_bool, cells_int, cells_str, cells_agg, cells_ptr, cells_nils, cells_imm, cells_wr, cells_wc, cells_nilp, cells_nilf, cells_nilm, cells_rd, cells_emp, cells_byteV, cells_func, and_self, and_true, true_and, u_slA, uc_strs, cells_slA, strV_is]) h
  · have ha := tr_at h2
    rw [h3] at h
    rw [h1, Nat.zero_add]
    generalize t.kids.getD j tr0 = x at *
    rw [foundV_s] at h
    have hVc := Tr.V_cells x
    refine stp (And.intro ha hVc) ?_
    refine aret_plain hs ?_ h
    simp only [u_top, u_bool, u_int, u_str, u_nilp, u_nils, u_nilf, u_nilm, u_nili, u_emp, u_byteV, u_ptr, u_wr, u_wc, u_agg, u_tup, u_rd, u_imm, u_func, u_nil, u_cons, u_app, uc_nil, uc_cons, uc_app, u_bytes, uc_bytes, u_ints, uc_ints, cells_bool, cells_int, cells_str, cells_agg, cells_ptr, cells_nils, cells_imm, cells_wr, cells_wc, cells_nilp, cells_nilf, cells_nilm, cells_rd, cells_emp, cells_byteV, cells_func, and_self, and_true, true_and, u_slA, uc_strs, cells_slA, strV_is]
    exact ⟨props_u _ _, kids_u _ _⟩
theorem Find_a {t : Tr} (ho : TrOk t) {p : List UInt8} (hl : p.length < 1073741824) (h : K (foundV (findT t p)) H) : (ACalls Tryd.prog) 45 [t.V, .str (B p)] H K := by
  refine acalls_go mo t45 (fun hs hu => ?_)
  have hno : findT t p = none → K (.tup [.agg [.str (B []), .nils, .nils], .bool false]) H := fun e => by
    rw [e] at h
    exact h
  have hyes : ∀ k, findT t p = some k → K (.tup [.agg [.str (B k.name), slA k.kp 2 (k.props.map propV), slA k.kk 3 (k.kids.map Tr.V)], .bool true]) H := fun k e => by
    rw [e, foundV_s] at h
    exact h
  clear h
  unfold findT at hno hyes
  simp only [c45, Tr.V_is, go_sem, Nat.reduceLeDiff, Nat.reduceAdd, Nat.reduceSub, Nat.reduceMul, Nat.reduceLT, Int.reduceLT, Int.reduceLE, Int.reduceAdd, Int.reduceSub, Int.reduceMul, Int.reduceToNat, Int.reduceNeg, Int.reduceEq, Nat.reducePow, Int.reducePow, Nat.reduceEqDiff, decide_true, decide_false, reduceIte, reduceCtorEq, Int.reduceBEq, Int.reduceBNe, bne_self_eq_false, Int.cast_ofNat_Int, Bool.not_true, Bool.not_false, IntKind.bits]
  refine Parts_a hl (fun kk => ?_)
  cases hp1 : partsP p with
  | none =>
    rw [hp1] at hno
    have := hno rfl
    rw [partsV_n]
    refine stp0 ?_
    refine go_rounds mono 1 ?_
    simp (maxSteps := 4000000) (disch := (first | omega | (simp only [set_next, List.length_append, List.length_cons, List.length_nil, List.length_take, List.length_drop, List.length_map, List.length_set, List.length_replicate]; omega) | (simp only [set_next, ne_eq, reduceCtorEq, not_false_eq_true]))) only [rnds_succ, go_sem, Nat.reduceLeDiff, Nat.reduceAdd, Nat.reduceSub, Nat.reduceMul, Nat.reduceLT, Int.reduceLT, Int.reduceLE, Int.reduceAdd, Int.reduceSub, Int.reduceMul, Int.reduceToNat, Int.reduceNeg, Int.reduceEq, Nat.reducePow, Int.reducePow, Nat.reduceEqDiff, decide_true, decide_false, reduceIte, reduceCtorEq, Int.reduceBEq, Int.reduceBNe, bne_self_eq_false, Int.cast_ofNat_Int, Bool.not_true, Bool.not_false, IntKind.bits, w_nat, w_lit, w_add, w_addl, w_ladd, w_sub, w_subl, w_lsub, w_mul, w_mull, w_lmul, t_div, t_divl, t_mod, t_modl, i_lt, i_ltl, i_llt, i_le, i_lel, i_lle, i_eq, i_eql, i_leq, Nat.zero_le, d_beq, d_bne, d_bytes, byte_at, Int.toNat_natCast, toNat_lit, decide_eq_true, decide_eq_false, if_pos, if_neg, slA_len, slA_idx, slA_cells, flat_slA, one_slA, cells_slA, map_mid, strV_is, hp_get1, hp_get2, hp_get3, hp_set1, hp_set2, hp_set3, hp_old, hp_sold, set_got, set_set, set_next, set_other, bytesL, bytes_all, List.length_map, aapp_nils, aapp_wr, List.flatMap_cons, List.flatMap_nil, Nat.mul_one]
    exact aret_plain hs (by simp only [u_top, u_bool, u_int, u_str, u_nilp, u_nils, u_nilf, u_nilm, u_nili, u_emp, u_byteV, u_ptr, u_wr, u_wc, u_agg, u_tup, u_rd, u_imm, u_func, u_nil, u_cons, u_app, uc_nil, uc_cons, uc_app, u_bytes, uc_bytes, u_ints, uc_ints, cells_bool, cells_int, cells_str, cells_agg, cells_ptr, cells_nils, cells_imm, cells_wr, cells_wc, cells_nilp, cells_nilf, cells_nilm, cells_rd, cells_emp, cells_byteV, cells_func, and_self, and_true, true_and, u_slA, uc_strs, cells_slA, strV_is]) this
  | some ns =>
    rw [hp1] at hno hyes
    simp only at hno hyes
    have hn8 := partsP_le hp1
    rw [partsV_s]
    refine stp0 ?_
    refine go_loopS mono (σ := Tr × Bool × Nat) (fun z => [(7, .bool z.2.1), (17, .int .i64 (z.2.2 : Int))]) (fun z => hp H [trRow z.1, trRow tr0]) (fun z => TrOk z.1 ∧ z.2.2 ≤ ns.length ∧ (z.2.1 = true → walkTo z.1 (ns.drop z.2.2) = walkTo t ns) ∧ (z.2.1 = false → walkTo t ns = none)) (fun z => ns.length - z.2.2) (t, true, 0) ?_ rfl ⟨ho, Nat.zero_le _, fun _ => rfl, fun e => by cases e⟩ (fun z hz J hJ => ?_)
    · exact fgt
    obtain ⟨cur, ok, i⟩ := z
    obtain ⟨hok, hil, hw1, hw2⟩ := hz
    simp only at hok hil hw1 hw2
    have hr0 : trRow tr0 = .row 25 0 [.str (B []), .nils, .nils] := rfl
    simp only [blurR_nil, blurR_some, blurR_none, blurC_region, blurC_regionN, blurC_fregion, blurT_nil, blurT_cons, blurC_seq, blurC_both, blurC_cond, blurC_block, blurC_loop, blurC_skip, blurC_exit, blurC_ret, tellS_nil, tellS_cons, List.set_cons_zero, List.set_cons_succ, tops_zero, tops_succ]
    by_cases h1 : i < ns.length
    · have ha := strs_at h1
      cases ok with
      | false =>
        refine stp ha ?_
        exact hJ (cur, false, i + 1) _ ⟨hok, h1, fun e => (by cases e), hw2⟩ (by show ns.length - (i + 1) < ns.length - i; omega) fgt
      | true =>
        have hw := hw1 rfl
        have hd : ns.drop i = ns.getD i [] :: ns.drop (i + 1) := by rw [List.drop_eq_getElem_cons h1, List.getD_eq_getElem?_getD, List.getElem?_eq_getElem h1]; rfl
        rw [hd, walkTo] at hw
        generalize ns.getD i [] = n at *
        have hVi := Tr.V_is cur
        simp (maxSteps := 4000000) (disch := (first | omega | (simp only [set_next, List.length_append, List.length_cons, List.length_nil, List.length_take, List.length_drop, List.length_map, List.length_set, List.length_replicate]; omega) | (simp only [set_next, ne_eq, reduceCtorEq, not_false_eq_true]))) only [ha, trRow_is cur, hr0, go_sem, Nat.reduceLeDiff, Nat.reduceAdd, Nat.reduceSub, Nat.reduceMul, Nat.reduceLT, Int.reduceLT, Int.reduceLE, Int.reduceAdd, Int.reduceSub, Int.reduceMul, Int.reduceToNat, Int.reduceNeg, Int.reduceEq, Nat.reducePow, Int.reducePow, Nat.reduceEqDiff, decide_true, decide_false, reduceIte, reduceCtorEq, Int.reduceBEq, Int.reduceBNe, bne_self_eq_false, Int.cast_ofNat_Int, Bool.not_true, Bool.not_false, IntKind.bits, w_nat, w_lit, w_add, w_addl, w_ladd, w_sub, w_subl, w_lsub, w_mul, w_mull, w_lmul, t_div, t_divl, t_mod, t_modl, i_lt, i_ltl, i_llt, i_le, i_lel, i_lle, i_eq, i_eql, i_leq, Nat.zero_le, d_beq, d_bne, d_bytes, byte_at, Int.toNat_natCast, toNat_lit, decide_eq_true, decide_eq_false, if_pos, if_neg, slA_len, slA_idx, slA_cells, flat_slA, one_slA, cells_slA, map_mid, strV_is, hp_get1, hp_get2, hp_get3, hp_set1, hp_set2, hp_set3, hp_old, hp_sold, set_got, set_set, set_next, set_other, bytesL, bytes_all, List.length_map, aapp_nils, aapp_wr, List.flatMap_cons, List.flatMap_nil, Nat.mul_one]
        rw [← hVi]
        refine Kid_a hok ?_
        cases hk : kidT cur n with
        | none =>
          rw [hk] at hw
          rw [foundV_n]
          refine stp0 ?_
          rw [← hr0]
          exact hJ (tr0, false, i + 1) _ ⟨TrOk_0, h1, fun e => (by cases e), fun _ => hw.symm⟩ (by show ns.length - (i + 1) < ns.length - i; omega) fgt
        | some k =>
          rw [hk] at hw
          simp only at hw
          have hko := kidT_ok hok hk
          rw [foundV_s]
          refine stp0 ?_
          rw [← hr0, ← trRow_is]
          exact hJ (k, true, i + 1) _ ⟨hko, h1, fun _ => hw, fun e => by cases e⟩ (by show ns.length - (i + 1) < ns.length - i; omega) fgt
    · cases ok with
      | false =>
        have := hno (hw2 rfl)
        simp (maxSteps := 4000000) (disch := (first | omega | (simp only [set_next, List.length_append, List.length_cons, List.length_nil, List.length_take, List.length_drop, List.length_map, List.length_set, List.length_replicate]; omega) | (simp only [set_next, ne_eq, reduceCtorEq, not_false_eq_true]))) only [trRow_is cur, hr0, go_sem, Nat.reduceLeDiff, Nat.reduceAdd, Nat.reduceSub, Nat.reduceMul, Nat.reduceLT, Int.reduceLT, Int.reduceLE, Int.reduceAdd, Int.reduceSub, Int.reduceMul, Int.reduceToNat, Int.reduceNeg, Int.reduceEq, Nat.reducePow, Int.reducePow, Nat.reduceEqDiff, decide_true, decide_false, reduceIte, reduceCtorEq, Int.reduceBEq, Int.reduceBNe, bne_self_eq_false, Int.cast_ofNat_Int, Bool.not_true, Bool.not_false, IntKind.bits, w_nat, w_lit, w_add, w_addl, w_ladd, w_sub, w_subl, w_lsub, w_mul, w_mull, w_lmul, t_div, t_divl, t_mod, t_modl, i_lt, i_ltl, i_llt, i_le, i_lel, i_lle, i_eq, i_eql, i_leq, Nat.zero_le, d_beq, d_bne, d_bytes, byte_at, Int.toNat_natCast, toNat_lit, decide_eq_true, decide_eq_false, if_pos, if_neg, slA_len, slA_idx, slA_cells, flat_slA, one_slA, cells_slA, map_mid, strV_is, hp_get1, hp_get2, hp_get3, hp_set1, hp_set2, hp_set3, hp_old, hp_sold, set_got, set_set, set_next, set_other, bytesL, bytes_all, List.length_map, aapp_nils, aapp_wr, List.flatMap_cons, List.flatMap_nil, Nat.mul_one]
        exact aret_plain hs (by simp only [u_top, u_bool, u_int, u_str, u_nilp, u_nils, u_nilf, u_nilm, u_nili, u_emp, u_byteV, u_ptr, u_wr, u_wc, u_agg, u_tup, u_rd, u_imm, u_func, u_nil, u_cons, u_app, uc_nil, uc_cons, uc_app, u_bytes, uc_bytes, u_ints, uc_ints, cells_bool, cells_int, cells_str, cells_agg, cells_ptr, cells_nils, cells_imm, cells_wr, cells_wc, cells_nilp, cells_nilf, cells_nilm, cells_rd, cells_emp, cells_byteV, cells_func, and_self, and_true, true_and, u_slA, uc_strs, cells_slA, strV_is]) this
      | true =>
        have hw := hw1 rfl
        rw [List.drop_of_length_le (by omega), walkTo] at hw
        have := hyes _ hw.symm
        simp (maxSteps := 4000000) (disch := (first | omega | (simp only [set_next, List.length_append, List.length_cons, List.length_nil, List.length_take, List.length_drop, List.length_map, List.length_set, List.length_replicate]; omega) | (simp only [set_next, ne_eq, reduceCtorEq, not_false_eq_true]))) only [trRow_is cur, hr0, go_sem, Nat.reduceLeDiff, Nat.reduceAdd, Nat.reduceSub, Nat.reduceMul, Nat.reduceLT, Int.reduceLT, Int.reduceLE, Int.reduceAdd, Int.reduceSub, Int.reduceMul, Int.reduceToNat, Int.reduceNeg, Int.reduceEq, Nat.reducePow, Int.reducePow, Nat.reduceEqDiff, decide_true, decide_false, reduceIte, reduceCtorEq, Int.reduceBEq, Int.reduceBNe, bne_self_eq_false, Int.cast_ofNat_Int, Bool.not_true, Bool.not_false, IntKind.bits, w_nat, w_lit, w_add, w_addl, w_ladd, w_sub, w_subl, w_lsub, w_mul, w_mull, w_lmul, t_div, t_divl, t_mod, t_modl, i_lt, i_ltl, i_llt, i_le, i_lel, i_lle, i_eq, i_eql, i_leq, Nat.zero_le, d_beq, d_bne, d_bytes, byte_at, Int.toNat_natCast, toNat_lit, decide_eq_true, decide_eq_false, if_pos, if_neg, slA_len, slA_idx, slA_cells, flat_slA, one_slA, cells_slA, map_mid, strV_is, hp_get1, hp_get2, hp_get3, hp_set1, hp_set2, hp_set3, hp_old, hp_sold, set_got, set_set, set_next, set_other, bytesL, bytes_all, List.length_map, aapp_nils, aapp_wr, List.flatMap_cons, List.flatMap_nil, Nat.mul_one]
        refine aret_plain hs ?_ this
        simp only [u_top, u_bool, u_int, u_str, u_nilp, u_nils, u_nilf, u_nilm, u_nili, u_emp, u_byteV, u_ptr, u_wr, u_wc, u_agg, u_tup, u_rd, u_imm, u_func, u_nil, u_cons, u_app, uc_nil, uc_cons, uc_app, u_bytes, uc_bytes, u_ints, uc_ints, cells_bool, cells_int, cells_str, cells_agg, cells_ptr, cells_nils, cells_imm, cells_wr, cells_wc, cells_nilp, cells_nilf, cells_nilm, cells_rd, cells_emp, cells_byteV, cells_func, and_self, and_true, true_and, u_slA, uc_strs, cells_slA, strV_is]
        exact ⟨props_u _ _, kids_u _ _⟩
end
theorem foundV_is (x : Option Tr) : foundV x = .tup [.agg [.str (B (x.getD tr0).name), slA (x.getD tr0).kp 2 ((x.getD tr0).props.map propV), slA (x.getD tr0).kk 3 ((x.getD tr0).kids.map Tr.V)], .bool x.isSome] := by
  cases x with
  | none => exact foundV_n
  | some k => exact foundV_s k
section
variable {H : AHeap} {K : AV → AHeap → Prop}
theorem join_sl {k : Nat} {ws : List (List UInt8)} {sep : List UInt8} (hN : ws.length ≤ 140737488355328) (hl : (Lib.join ws sep).length ≤ 140737488355328) (h : K (.str (B (Lib.join ws sep))) H) : (ACalls Tryd.prog) 62 [slA k 1 (ws.map strV), .str (B sep)] H K := by
  cases ws with
  | nil =>
    refine acalls_go mo t62 (fun hs hu => ?_)
    have h : K (.str (B [])) H := h
    simp only [c62, List.map_nil, go_sem, Nat.reduceLeDiff, Nat.reduceAdd, Nat.reduceSub, Nat.reduceMul, Nat.reduceLT, Int.reduceLT, Int.reduceLE, Int.reduceAdd, Int.reduceSub, Int.reduceMul, Int.reduceToNat, Int.reduceNeg, Int.reduceEq, Nat.reducePow, Int.reducePow, Nat.reduceEqDiff, decide_true, decide_false, reduceIte, reduceCtorEq, Int.reduceBEq, Int.reduceBNe, bne_self_eq_false, Int.cast_ofNat_Int, Bool.not_true, Bool.not_false, IntKind.bits]
    refine stp0 ?_
    exact aret_u hs (h)
  | cons w ws => exact join_a t62 (List.cons_ne_nil _ _) hN hl h
end
/-! ### trees that are handed in -/
theorem openAt_struct {P : Program} {t : TypeId} {fs : Array Field} {sz n : Nat} {Y : List AV → Prop} (hu : P.underlying t = some (.struct fs)) (hc : P.cellsOf t = sz) (h : FieldsAt P fs.toList 0 sz Y n) : OpenAt P t Y (n + 1) := by
  intro H enc W cs x hx
  obtain ⟨xs, m, hm, _, hl, hxl, hxs⟩ := DataW.trod_struct hu hx
  have hnm : n = m := by omega
  subst hnm
  obtain ⟨ys, ha, hw⟩ := h H enc W cs (fun f hf => by
    obtain ⟨i, hi⟩ := List.getElem?_of_mem hf
    have hi' : fs[i]? = some f := by simpa using hi
    have hlt : i < xs.length := by rw [hxl]; exact (Array.getElem?_eq_some_iff.1 hi').1
    exact ⟨xs[i], (hxs i f hi').trans (List.getElem?_eq_getElem hlt)⟩) (by omega)
  exact ⟨ys, ha, hw⟩
theorem openAt_zero {P : Program} {t : TypeId} {fs : Array Field} {Y : List AV → Prop} (hu : P.underlying t = some (.struct fs)) : OpenAt P t Y 0 := by
  intro H enc W cs x hx
  simp [DataW.trod] at hx
theorem openAt_mono {P : Program} {t : TypeId} {Y Y' : List AV → Prop} {n : Nat} (hw : ∀ a, Y a → Y' a) (h : OpenAt P t Y n) : OpenAt P t Y' n := by
  intro H enc W cs x hx
  obtain ⟨a, ha, hwa⟩ := h H enc W cs x hx
  exact ⟨a, ha, hw a hwa⟩
theorem openAt_zsl {P : Program} {t e : TypeId} {Y : List AV → Prop} (hu : P.underlying t = some (.slice e)) : OpenAt P t Y 0 := by
  intro H enc W cs x hx
  simp [DataW.trod] at hx
theorem openAt_slQ {P : Program} {t e : TypeId} {α : Type} {f : α → List AV} {g : α → AV} {Q : α → Prop} {Y : List AV → Prop} {sz n : Nat} (pk : List AV → AV) (hu : P.underlying t = some (.slice e)) (hc : P.cellsOf e = sz) (h0 : 0 < sz) (hY : ∀ ys, Y ys → ∃ a, Q a ∧ ys = f a) (hg : ∀ a, pk (f a) = g a) (hf : ∀ a, (g a).cells = f a) (h : OpenAt P e Y n) :
    OpenAt P t (fun zs => ∃ (k : Nat) (l : List α), zs = [slA k sz (l.map g)] ∧ l.length ≤ 9223372036854775807 ∧ ∀ a ∈ l, Q a) (n + 1) := by
  refine openAt_mono (fun zs hz => ?_) (openAt_slice pk hu hc h0 (fun ys hy => ?_) h)
  · rcases hz with rfl | rfl | ⟨xs, h1, h2, rfl, h3⟩
    · exact ⟨0, [], rfl, by simp, by simp⟩
    · exact ⟨1, [], rfl, by simp, by simp⟩
    · obtain ⟨l, hl, rfl⟩ := map_ofQ hY xs (fun ys hy => (h3 ys hy).1)
      refine ⟨2, l, ?_, by simpa using h2, hl⟩
      rw [List.map_map, show pk ∘ f = g from funext hg]
      cases l <;> rfl
  · obtain ⟨a, hq, rfl⟩ := hY ys hy
    rw [hg, hf]
def YStr (a : List AV) : Prop := ∃ s : ByteArray, s.size ≤ 9223372036854775807 ∧ a = [.str s]
def YPr (zs : List AV) : Prop := ∃ a a2 : List AV, zs = a ++ a2 ∧ YStr a ∧ YStr a2
def PrOk (p : List UInt8 × List UInt8) : Prop := p.1.length ≤ 9223372036854775807 ∧ p.2.length ≤ 9223372036854775807
theorem openPr : Opens Tryd.prog 62 YPr :=
  opens_struct (sz := 1 + 1) Tryd.underlying62 (by kernel_rfl) (fun n => fields_cons rfl (by kernel_rfl) (opens_str Tryd.underlying9 n) (fields_one rfl (by kernel_rfl) (opens_str Tryd.underlying9 n)))
def YPrs (zs : List AV) : Prop := ∃ (k : Nat) (l : List (List UInt8 × List UInt8)), zs = [slA k 2 (l.map propV)] ∧ l.length ≤ 9223372036854775807 ∧ ∀ p ∈ l, PrOk p
theorem openPrs : Opens Tryd.prog 22 YPrs :=
  opens_slQ (f := fun p => [.str (B p.1), .str (B p.2)]) (g := propV) (Q := PrOk) .agg Tryd.underlying22 (by kernel_rfl) (by decide) (fun ys hy => by
    obtain ⟨_, _, rfl, ⟨s, hs, rfl⟩, ⟨s2, hs2, rfl⟩⟩ := hy
    exact ⟨(s.data.toList, s2.data.toList), ⟨hs, hs2⟩, by simp [B_of]⟩) (fun _ => rfl) (fun _ => rfl) openPr
def YTr (zs : List AV) : Prop := ∃ t, TrOk t ∧ zs = t.cells
def YTrs (zs : List AV) : Prop := ∃ (k : Nat) (l : List Tr), zs = [slA k 3 (l.map Tr.V)] ∧ l.length ≤ 9223372036854775807 ∧ ∀ t ∈ l, TrOk t
theorem openAt_tr : ∀ n, OpenAt Tryd.prog 25 YTr n ∧ OpenAt Tryd.prog 23 YTrs n
  | 0 => ⟨openAt_zero Tryd.underlying25, openAt_zsl Tryd.underlying23⟩
  | n + 1 => by
    obtain ⟨ih1, ih2⟩ := openAt_tr n
    refine ⟨?_, ?_⟩
    · refine openAt_mono (fun zs hz => ?_) (openAt_struct (sz := 1 + (1 + 1)) Tryd.underlying25 (by kernel_rfl) (fields_cons rfl (by kernel_rfl) (opens_str Tryd.underlying9 n) (fields_cons rfl (by kernel_rfl) (openPrs n) (fields_one rfl (by kernel_rfl) ih2))))
      obtain ⟨_, _, rfl, ⟨s, hs, rfl⟩, _, _, rfl, ⟨kp, ps, rfl, hps, hpo⟩, ⟨kk, ks, rfl, hks, hko⟩⟩ := hz
      refine ⟨.mk s.data.toList kp ps kk ks, .mk _ _ _ _ _ hs hps hpo hks hko, ?_⟩
      rw [Tr.cells_is]
      rfl
    · exact openAt_slQ (f := Tr.cells) (g := Tr.V) (Q := TrOk) .agg Tryd.underlying23 (by kernel_rfl) (by decide) (fun ys hy => hy) (fun _ => rfl) (fun _ => rfl) ih1
theorem openTr : Opens Tryd.prog 25 YTr := fun n => (openAt_tr n).1
def joinPs (ls : List (List UInt8)) : List UInt8 := 47 :: Lib.join ls [47]
def accP (ls : List (List UInt8)) : List UInt8 := ls.flatMap fun s => 47 :: s
theorem accP_cons (s : List UInt8) (ls : List (List UInt8)) : accP (s :: ls) = 47 :: s ++ accP ls := rfl
theorem accP_tail : ∀ ls : List (List UInt8), accP ls = Lib.joinTail [47] ls
  | [] => rfl
  | s :: ls => by rw [accP_cons, accP_tail ls]; simp [Lib.joinTail]
theorem accP_join {ls : List (List UInt8)} (h : ls ≠ []) : accP ls = joinPs ls := by
  cases ls with
  | nil => cases h rfl
  | cons s ls =>
    unfold joinPs
    rw [accP_cons, Lib.join_cons, accP_tail]
    rfl
theorem accP_len {m : Nat} : ∀ ls : List (List UInt8), (∀ s ∈ ls, s.length ≤ m) → (accP ls).length ≤ ls.length * (m + 1)
  | [], _ => Nat.zero_le _
  | s :: ls, h => by
    have h1 := accP_len ls (fun x hx => h x (List.mem_cons_of_mem _ hx))
    have h2 := h s (List.mem_cons_self ..)
    rw [accP_cons, List.length_append, List.length_cons, List.length_cons, Nat.succ_mul]
    omega
theorem joinPs_len {m : Nat} {ls : List (List UInt8)} (h : ∀ s ∈ ls, s.length ≤ m) : (joinPs ls).length ≤ ls.length * (m + 1) + 1 := by
  by_cases h0 : ls = []
  · rw [h0]
    exact Nat.le_of_ble_eq_true (by rfl)
  · rw [← accP_join h0]
    have := accP_len ls h
    omega
section
variable {H : AHeap} {K : AV → AHeap → Prop}
theorem Join_a {k : Nat} {ls : List (List UInt8)} (hn : ls.length ≤ 65536) (hb : ∀ s ∈ ls, s.length ≤ 65536) (h : K (.str (B (joinPs ls))) H) : (ACalls Tryd.prog) 40 [slA k 1 (ls.map strV)] H K := by
  refine acalls_go mo t40 (fun hs hu => ?_)
  have hl := joinPs_len hb
  have hl2 : (Lib.join ls [47]).length + 1 = (joinPs ls).length := by unfold joinPs; rw [List.length_cons]
  have hm := Nat.mul_le_mul_right 65537 hn
  simp only [c40, go_sem, Nat.reduceLeDiff, Nat.reduceAdd, Nat.reduceSub, Nat.reduceMul, Nat.reduceLT, Int.reduceLT, Int.reduceLE, Int.reduceAdd, Int.reduceSub, Int.reduceMul, Int.reduceToNat, Int.reduceNeg, Int.reduceEq, Nat.reducePow, Int.reducePow, Nat.reduceEqDiff, decide_true, decide_false, reduceIte, reduceCtorEq, Int.reduceBEq, Int.reduceBNe, bne_self_eq_false, Int.cast_ofNat_Int, Bool.not_true, Bool.not_false, IntKind.bits]
  refine join_sl (by omega) (by omega) ?_
  have e : joinPs ls = [47] ++ Lib.join ls [47] := rfl
  rw [e] at h hl hl2
  generalize Lib.join ls [47] = j at *
  refine stp0 ?_
  exact aret_u hs (h)
theorem rJoin_a {k : Nat} {ls : List (List UInt8)} (hn : ls.length ≤ 65536) (hb : ∀ s ∈ ls, s.length ≤ 65536) (h : K (.str (B (joinPs ls))) H) : (ACalls Tryd.prog) 50 [slA k 1 (ls.map strV)] H K := by
  refine acalls_go mo t50 (fun hs hu => ?_)
  simp only [c50, go_sem, Nat.reduceLeDiff, Nat.reduceAdd, Nat.reduceSub, Nat.reduceMul, Nat.reduceLT, Int.reduceLT, Int.reduceLE, Int.reduceAdd, Int.reduceSub, Int.reduceMul, Int.reduceToNat, Int.reduceNeg, Int.reduceEq, Nat.reducePow, Int.reducePow, Nat.reduceEqDiff, decide_true, decide_false, reduceIte, reduceCtorEq, Int.reduceBEq, Int.reduceBNe, bne_self_eq_false, Int.cast_ofNat_Int, Bool.not_true, Bool.not_false, IntKind.bits]
  refine go_loopS mono (σ := Nat) (fun i => [(3, .str (B (accP (ls.take i)))), (4, .int .i64 (i : Int))]) (fun i => hp H []) (fun i => i ≤ ls.length) (fun i => ls.length - i) 0 ?_ rfl (Nat.zero_le _) (fun i hi J hJ => ?_)
  · exact fgt
  have hil : i ≤ ls.length := hi
  simp only [blurR_nil, blurR_some, blurR_none, blurC_region, blurC_regionN, blurC_fregion, blurT_nil, blurT_cons, blurC_seq, blurC_both, blurC_cond, blurC_block, blurC_loop, blurC_skip, blurC_exit, blurC_ret, tellS_nil, tellS_cons, List.set_cons_zero, List.set_cons_succ, tops_zero, tops_succ]
  by_cases h1 : i < ls.length
  · have ha := strs_at h1
    have hxb : (ls.getD i []).length ≤ 65536 := hb _ (by rw [List.getD_eq_getElem?_getD, List.getElem?_eq_getElem h1]; exact List.getElem_mem h1)
    have hlen := accP_len (ls.take i) (fun s hs => hb s (List.mem_of_mem_take hs))
    rw [List.length_take] at hlen
    have htk : accP (ls.take (i + 1)) = accP (ls.take i) ++ [47] ++ ls.getD i [] := by
      rw [List.take_add_one, List.getElem?_eq_getElem h1, List.append_assoc, List.getD_eq_getElem?_getD, List.getElem?_eq_getElem h1]
      unfold accP
      rw [List.flatMap_append]
      simp
    have hJ2 := hJ (i + 1)
    clear hJ
    rw [htk] at hJ2
    generalize ls.getD i [] = s at *
    generalize accP (ls.take i) = o at *
    refine stp ha ?_
    exact hJ2 _ h1 (by omega) fgt
  · rw [List.take_of_length_le (by omega)]
    by_cases h0 : ls = []
    · rw [h0] at h
      have h : K (.str (B [47])) H := h
      rw [h0]
      simp only [List.map_nil]
      refine stp0 ?_
      exact aret_u hs (h)
    · have h2 := List.length_pos_iff.2 h0
      rw [← accP_join h0] at h
      refine stp0 ?_
      exact aret_u hs (h)
end
section
variable {H : AHeap} {K : AV → AHeap → Prop}
theorem rParts_a {p : List UInt8} (hl : p.length < 9223372036854775807) (h : ∀ k, K (partsV k (partsP p)) H) : (ACalls Tryd.prog) 28 [.str (B p)] H K := by
  refine parts_a hl (fun k => ?_)
  have := h k
  cases hp1 : partsP p with
  | none => rw [hp1] at this; exact this
  | some ns => rw [hp1] at this; exact this
end
theorem low12 {t : Tr} (h : tLow t = true) : tlow 12 t = true := by
  unfold tLow at h
  rw [Bool.and_eq_true] at h
  exact h.1
theorem splitA_ne (c : UInt8) : ∀ (l acc : List UInt8), splitA c acc l ≠ []
  | [], acc => by simp [splitA]
  | b :: l, acc => by
    rw [splitA]
    split
    · simp
    · exact splitA_ne c l _
theorem splitA_join (c : UInt8) : ∀ (l acc : List UInt8), Lib.join (splitA c acc l) [c] = acc ++ l
  | [], acc => by simp [splitA, Lib.join_cons, Lib.joinTail]
  | b :: l, acc => by
    rw [splitA]
    by_cases h : b = c
    · rw [if_pos h, Lib.join_cons]
      have ih := splitA_join c l []
      obtain ⟨x, r, e⟩ := List.exists_cons_of_ne_nil (splitA_ne c l [])
      rw [e] at ih ⊢
      rw [Lib.join_cons] at ih
      have h3 : Lib.joinTail [c] (x :: r) = ([c] ++ x) ++ Lib.joinTail [c] r := by simp [Lib.joinTail]
      rw [h3, List.append_assoc, ih, h]
      rfl
    · rw [if_neg h, splitA_join c l, List.append_assoc]
      rfl
theorem parts_join {p : List UInt8} {ns : List (List UInt8)} (h : partsP p = some ns) : joinPs ns = p := by
  unfold partsP at h
  by_cases h1 : p = [47]
  · rw [if_pos h1] at h
    obtain rfl := Option.some.inj h
    rw [h1]
    rfl
  · rw [if_neg h1] at h
    by_cases h2 : p.getD 0 0 = 47
    · rw [if_pos h2, scan_split _ _ _ (by simp), List.nil_append] at h
      split at h
      · obtain rfl := Option.some.inj h
        unfold joinPs
        rw [splitA_join, List.nil_append]
        cases p with
        | nil => revert h2; decide
        | cons c r =>
          have h2 : c = 47 := h2
          rw [h2]
          rfl
      · cases h
    · rw [if_neg h2] at h
      cases h
theorem accP_mem : ∀ {ls : List (List UInt8)} {s : List UInt8}, s ∈ ls → s.length ≤ (accP ls).length
  | x :: ls, s, h => by
    rw [accP_cons, List.length_append, List.length_cons]
    rcases List.mem_cons.1 h with e | e
    · rw [e]; omega
    · have := accP_mem e
      omega
theorem parts_mem {p : List UInt8} {ns : List (List UInt8)} (h : partsP p = some ns) : ∀ s ∈ ns, s.length ≤ p.length := fun s hs => by
  rw [← parts_join h, ← accP_join (fun e => by rw [e] at hs; cases hs)]
  exact accP_mem hs
/-- A tree of which each node has at most n properties and kids. -/
inductive TrM (n : Nat) : Tr → Prop
  | mk (name : List UInt8) (kp : Nat) (props : List (List UInt8 × List UInt8)) (kk : Nat) (kids : List Tr) : name.length ≤ 100000 → props.length ≤ n → (∀ p ∈ props, p.1.length ≤ 100000 ∧ p.2.length ≤ 100000) → kids.length ≤ n → (∀ k ∈ kids, TrM n k) → TrM n (.mk name kp props kk kids)
theorem TrM.n {n : Nat} {t : Tr} (h : TrM n t) : t.name.length ≤ 100000 := by cases h; assumption
theorem TrM.p {n : Nat} {t : Tr} (h : TrM n t) : t.props.length ≤ n := by cases h; assumption
theorem TrM.ps {n : Nat} {t : Tr} (h : TrM n t) : ∀ p ∈ t.props, p.1.length ≤ 100000 ∧ p.2.length ≤ 100000 := by cases h; assumption
theorem TrM.k {n : Nat} {t : Tr} (h : TrM n t) : t.kids.length ≤ n := by cases h; assumption
theorem TrM.ks {n : Nat} {t : Tr} (h : TrM n t) : ∀ k ∈ t.kids, TrM n k := by cases h; assumption
theorem trm_0 (n : Nat) : TrM n tr0 := .mk _ _ _ _ _ (by simp) (by simp) (by simp) (by simp) (by simp)
theorem trm_up {n m : Nat} {t : Tr} (hn : n ≤ m) (h : TrM n t) : TrM m t := by
  induction h with
  | mk nm kp ps kk ks h1 h2 h3 h4 _ ih => exact .mk nm kp ps kk ks h1 (by omega) h3 (by omega) ih
theorem trm_ok {n : Nat} {t : Tr} (hn : n ≤ 1000000) (h : TrM n t) : TrOk t := by
  induction h with
  | mk nm kp ps kk ks h1 h2 h3 h4 _ ih => exact .mk nm kp ps kk ks (by omega) (by omega) (fun p hp => by have := h3 p hp; omega) (by omega) ih
theorem trm_b {n : Nat} {t : Tr} (hn : n ≤ 1000000) (h : TrM n t) : TrB t := by
  induction h with
  | mk nm kp ps kk ks h1 h2 h3 h4 _ ih => exact .mk nm kp ps kk ks (by omega) (by omega) ih
theorem trm_strip {n : Nat} {t : Tr} (h : TrM n t) : TrM n t.strip := by
  induction h with
  | mk nm kp ps kk ks h1 h2 h3 h4 _ ih =>
    rw [Tr.strip_is]
    refine .mk nm 0 ps 0 _ h1 h2 h3 (by simpa using h4) (fun k hk => ?_)
    obtain ⟨k', hk', rfl⟩ := List.mem_map.1 hk
    exact ih k' hk'
theorem trm_of {m : Nat} : ∀ (n : Nat) (t : Tr), SizeOf.sizeOf t ≤ n → TrM m t.strip → TrM m t
  | 0, t, hn, h => by
    exfalso
    cases t
    simp at hn
  | n + 1, .mk nm kp ps kk ks, hn, h => by
    rw [Tr.strip_is] at h
    cases h with
    | mk _ _ _ _ _ h1 h2 h3 h4 h5 =>
      refine .mk nm kp ps kk ks h1 h2 h3 (by simpa using h4) (fun k hk => trm_of n k ?_ (h5 _ (List.mem_map_of_mem hk)))
      have h6 : SizeOf.sizeOf k < SizeOf.sizeOf ks := List.sizeOf_lt_of_mem hk
      have h7 : SizeOf.sizeOf ks < SizeOf.sizeOf (Tr.mk nm kp ps kk ks) := by simp; omega
      omega
theorem trm_same {m : Nat} {t u : Tr} (he : t.strip = u.strip) (h : TrM m u) : TrM m t := trm_of _ t (Nat.le_refl _) (by rw [he]; exact trm_strip h)
theorem trm_low : ∀ (l : Nat) (t : Tr), tlow l t = true → TrM 300 t
  | 0, t, h => by
    rw [tlow] at h
    cases h
  | l + 1, .mk nm kp ps kk ks, h => by
    rw [tlow] at h
    simp only [Bool.and_eq_true, decide_eq_true_eq, List.all_eq_true] at h
    obtain ⟨⟨⟨⟨h1, h2⟩, h3⟩, h4⟩, h5⟩ := h
    refine .mk nm kp ps kk ks (Nat.le_trans h1 (by decide)) h2 (fun p hp => ?_) (Nat.le_trans h3 (by decide)) (fun k hk => trm_low l k (h5 k hk))
    have := h4 p hp
    unfold plow at this
    simp only [Bool.and_eq_true, decide_eq_true_eq] at this
    omega
theorem repl_mem {nm : List UInt8} {f : Tr → Tr × Int} : ∀ {ks : List Tr} {r : List Tr × Int}, repl nm f ks = some r → r.1.length = ks.length ∧ ∀ k ∈ r.1, k ∈ ks ∨ ∃ k0 ∈ ks, k = (f k0).1 ∧ r.2 = (f k0).2
  | [], r, h => by cases h
  | k :: ks, r, h => by
    rw [repl] at h
    by_cases hk : k.name = nm
    · rw [if_pos hk] at h
      obtain rfl := Option.some.inj h
      refine ⟨rfl, fun x hx => ?_⟩
      rcases List.mem_cons.1 hx with e | e
      · exact .inr ⟨k, List.mem_cons_self, e, rfl⟩
      · exact .inl (List.mem_cons_of_mem _ e)
    · rw [if_neg hk] at h
      cases hr : repl nm f ks with
      | none => rw [hr] at h; cases h
      | some q =>
        rw [hr] at h
        obtain rfl := Option.some.inj h
        obtain ⟨h1, h2⟩ := repl_mem hr
        refine ⟨by simp [h1], fun x hx => ?_⟩
        rcases List.mem_cons.1 hx with e | e
        · exact .inl (by rw [e]; exact List.mem_cons_self)
        · rcases h2 x e with q1 | ⟨k0, q1, q2⟩
          · exact .inl (List.mem_cons_of_mem _ q1)
          · exact .inr ⟨k0, List.mem_cons_of_mem _ q1, q2⟩
/-- What a change leaves of sizes. -/
def KeepM (n : Nat) (f : Tr → Tr × Int) : Prop := ∀ t, TrM n t → (f t).2 = 0 → TrM (n + 1) (f t).1
theorem downS_m {n : Nat} {f : Tr → Tr × Int} (hf : KeepM n f) : ∀ (ns : List (List UInt8)), KeepM n (downS f ns)
  | [], t, h, he => by
    rw [downS] at he ⊢
    exact hf t h he
  | nm :: ns, t, h, he => by
    rw [downS] at he ⊢
    cases hr : repl nm (downS f ns) t.kids with
    | none => rw [hr] at he; exact absurd (show (8 : Int) = 0 from he) (by decide)
    | some r =>
      rw [hr] at he
      have he : r.2 = 0 := he
      obtain ⟨h1, h2⟩ := repl_mem hr
      have hp := h.p
      have hk := h.k
      refine .mk _ _ _ _ _ h.n (by omega) h.ps (by omega) (fun k hk => ?_)
      rcases h2 k hk with q | ⟨k0, q1, q2, q3⟩
      · exact trm_up (Nat.le_succ _) (h.ks k q)
      · rw [q2]
        exact downS_m hf ns k0 (h.ks k0 q1) (by rw [← q3]; exact he)
theorem changedS_m {n : Nat} {f : Tr → Tr × Int} {p : List UInt8} {t : Tr} (hf : KeepM n f) (h : TrM n t) : TrM (n + 1) (changedS f p t).1 := by
  unfold changedS
  split
  · exact trm_0 _
  · rename_i ns _
    split
    · rename_i he
      show TrM (n + 1) (if _ then _ else _)
      split
      · exact downS_m hf ns t h he
      · exact trm_0 _
    · exact trm_0 _
theorem setPr_m (nm v : List UInt8) : ∀ l : List (List UInt8 × List UInt8), (setPr nm v l).length ≤ l.length + 1 ∧ ∀ p ∈ setPr nm v l, p ∈ l ∨ (p.2 = v ∧ p.1 = nm)
  | [] => ⟨by simp [setPr], fun p hp => .inr (by rw [setPr, List.mem_singleton] at hp; rw [hp]; exact ⟨rfl, rfl⟩)⟩
  | x :: l => by
    rw [setPr]
    split
    · rename_i hx
      refine ⟨by simp, fun p hp => ?_⟩
      rcases List.mem_cons.1 hp with e | e
      · exact .inr (by rw [e]; exact ⟨rfl, hx⟩)
      · exact .inl (List.mem_cons_of_mem _ e)
    · obtain ⟨h1, h2⟩ := setPr_m nm v l
      refine ⟨by simp; omega, fun p hp => ?_⟩
      rcases List.mem_cons.1 hp with e | e
      · exact .inl (by rw [e]; exact List.mem_cons_self)
      · exact (h2 p e).imp (fun q => List.mem_cons_of_mem _ q) id
theorem setF_m {n : Nat} {nm v : List UInt8} (hn : nm.length ≤ 100000) (hv : v.length ≤ 100000) : KeepM n (setF nm v) := fun t h he => by
  unfold setF at he ⊢
  split at he
  · rename_i hm
    rw [if_pos hm]
    obtain ⟨h1, h2⟩ := setPr_m nm v t.props
    have hp := h.p
    have hk := h.k
    refine .mk _ _ _ _ _ h.n (by omega) (fun p hp => ?_) (by omega) (fun k hk => trm_up (Nat.le_succ _) (h.ks k hk))
    rcases h2 p hp with q | ⟨q1, q2⟩
    · exact h.ps p q
    · rw [q1, q2]
      exact ⟨hn, hv⟩
  · exact absurd (show (1 : Int) = 0 from he) (by decide)
theorem cutF_m {α : Type} {p : α → Bool} : ∀ {l r : List α}, cutF p l = some r → r.length + 1 = l.length ∧ ∀ x ∈ r, x ∈ l
  | [], r, h => by cases h
  | x :: l, r, h => by
    rw [cutF] at h
    split at h
    · obtain rfl := Option.some.inj h
      exact ⟨rfl, fun y hy => List.mem_cons_of_mem _ hy⟩
    · cases hr : cutF p l with
      | none => rw [hr] at h; cases h
      | some q =>
        rw [hr] at h
        obtain rfl := Option.some.inj h
        obtain ⟨h1, h2⟩ := cutF_m hr
        refine ⟨by simp; omega, fun y hy => ?_⟩
        rcases List.mem_cons.1 hy with e | e
        · rw [e]; exact List.mem_cons_self
        · exact List.mem_cons_of_mem _ (h2 y e)
theorem unsetF_m {n : Nat} {nm : List UInt8} : KeepM n (unsetF nm) := fun t h he => by
  unfold unsetF at he ⊢
  cases hc : cutF (fun x : List UInt8 × List UInt8 => decide (x.1 = nm)) t.props with
  | none => rw [hc] at he; exact absurd (show (8 : Int) = 0 from he) (by decide)
  | some ps =>
    obtain ⟨h1, h2⟩ := cutF_m hc
    have hp := h.p
    have hk := h.k
    exact .mk _ _ _ _ _ h.n (by omega) (fun p hp => h.ps p (h2 p hp)) (by omega) (fun k hk => trm_up (Nat.le_succ _) (h.ks k hk))
theorem dropF_m {n : Nat} {nm : List UInt8} : KeepM n (dropF nm) := fun t h he => by
  unfold dropF at he ⊢
  cases hc : cutF (fun k : Tr => decide (k.name = nm)) t.kids with
  | none => rw [hc] at he; exact absurd (show (8 : Int) = 0 from he) (by decide)
  | some ks =>
    obtain ⟨h1, h2⟩ := cutF_m hc
    have hp := h.p
    have hk := h.k
    exact .mk _ _ _ _ _ h.n (by omega) h.ps (by omega) (fun k hk => trm_up (Nat.le_succ _) (h.ks k (h2 k hk)))
theorem addF_m {n : Nat} {nm : List UInt8} (hn : nm.length ≤ 100000) : KeepM n (addF nm) := fun t h he => by
  unfold addF at he ⊢
  split at he
  · rename_i hm
    rw [if_pos hm]
    split at he
    · exact absurd (show (12 : Int) = 0 from he) (by decide)
    · rename_i hk
      rw [if_neg hk]
      have hp := h.p
      have hk := h.k
      refine .mk _ _ _ _ _ h.n (by omega) h.ps (by rw [List.length_append, List.length_singleton]; omega) (fun k hk => ?_)
      rcases List.mem_append.1 hk with q | q
      · exact trm_up (Nat.le_succ _) (h.ks k q)
      · rw [List.mem_singleton] at q
        rw [q]
        exact .mk _ _ _ _ _ hn (by simp) (by simp) (by simp) (by simp)
  · exact absurd (show (1 : Int) = 0 from he) (by decide)
/-! ### what is found, of trees that are alike -/
theorem kidT_strip (t : Tr) (n : List UInt8) : kidT t.strip n = (kidT t n).map Tr.strip := by
  unfold kidT
  rw [Tr.strip_kids, List.find?_map]
  congr 1
  refine congrArg (fun q => List.find? q t.kids) ?_
  funext k
  show nameIs n k.strip = nameIs n k
  unfold nameIs
  rw [Tr.strip_name]
theorem walkTo_strip : ∀ (ns : List (List UInt8)) (t : Tr), walkTo t.strip ns = (walkTo t ns).map Tr.strip
  | [], t => rfl
  | n :: ns, t => by
    rw [walkTo, walkTo, kidT_strip]
    cases kidT t n with
    | none => rfl
    | some k => exact walkTo_strip ns k
theorem findT_strip (t : Tr) (p : List UInt8) : findT t.strip p = (findT t p).map Tr.strip := by
  unfold findT
  cases partsP p with
  | none => rfl
  | some ns => exact walkTo_strip ns t
section
variable {H : AHeap} {K : AV → AHeap → Prop}
theorem same_b : ∀ (l : Nat) (t u : Tr) (H : AHeap) (K : AV → AHeap → Prop), l ≤ 100 → TrOk t → TrOk u → t.strip = u.strip → K (.bool true) H → (ACalls Tryd.prog) 26 [t.V, u.V, .int .i64 (l : Int)] H K
  | 0, t, u, H, K, hl, ho, ho2, he, h => by
    refine acalls_go mo t26 (fun hs hu => ?_)
    simp only [c26, Tr.V_is, Int.ofNat_zero, Int.natCast_zero, go_sem, Nat.reduceLeDiff, Nat.reduceAdd, Nat.reduceSub, Nat.reduceMul, Nat.reduceLT, Int.reduceLT, Int.reduceLE, Int.reduceAdd, Int.reduceSub, Int.reduceMul, Int.reduceToNat, Int.reduceNeg, Int.reduceEq, Nat.reducePow, Int.reducePow, Nat.reduceEqDiff, decide_true, decide_false, reduceIte, reduceCtorEq, Int.reduceBEq, Int.reduceBNe, bne_self_eq_false, Int.cast_ofNat_Int, Bool.not_true, Bool.not_false, IntKind.bits]
    exact aret_u hs (h)
  | l + 1, t, u, H, K, hl, ho, ho2, he, h => by
    refine acalls_go mo t26 (fun hs hu => ?_)
    have ih := same_b l
    have hkl := ho.k
    have hkl2 := ho2.k
    have e1 : t.name = u.name := by rw [← Tr.strip_name t, he, Tr.strip_name]
    have e2 : t.props = u.props := by rw [← Tr.strip_props t, he, Tr.strip_props]
    have e3 : t.kids.map Tr.strip = u.kids.map Tr.strip := by rw [← Tr.strip_kids t, he, Tr.strip_kids]
    have e4 : t.kids.length = u.kids.length := by
      have := congrArg List.length e3
      simpa using this
    have hrt := trRow_is t
    have hru := trRow_is u
    rw [e1, e2] at hrt
    simp only [c26, Tr.V_is, e1, e2, go_sem, Nat.reduceLeDiff, Nat.reduceAdd, Nat.reduceSub, Nat.reduceMul, Nat.reduceLT, Int.reduceLT, Int.reduceLE, Int.reduceAdd, Int.reduceSub, Int.reduceMul, Int.reduceToNat, Int.reduceNeg, Int.reduceEq, Nat.reducePow, Int.reducePow, Nat.reduceEqDiff, decide_true, decide_false, reduceIte, reduceCtorEq, Int.reduceBEq, Int.reduceBNe, bne_self_eq_false, Int.cast_ofNat_Int, Bool.not_true, Bool.not_false, IntKind.bits]
    simp (maxSteps := 4000000) (disch := (first | omega | (simp only [set_next, List.length_append, List.length_cons, List.length_nil, List.length_take, List.length_drop, List.length_map, List.length_set, List.length_replicate]; omega) | (simp only [set_next, ne_eq, reduceCtorEq, not_false_eq_true]))) only [B_toList, beq_self_eq_true, bne_self_eq_false, go_sem, Nat.reduceLeDiff, Nat.reduceAdd, Nat.reduceSub, Nat.reduceMul, Nat.reduceLT, Int.reduceLT, Int.reduceLE, Int.reduceAdd, Int.reduceSub, Int.reduceMul, Int.reduceToNat, Int.reduceNeg, Int.reduceEq, Nat.reducePow, Int.reducePow, Nat.reduceEqDiff, decide_true, decide_false, reduceIte, reduceCtorEq, Int.reduceBEq, Int.reduceBNe, bne_self_eq_false, Int.cast_ofNat_Int, Bool.not_true, Bool.not_false, IntKind.bits, w_nat, w_lit, w_add, w_addl, w_ladd, w_sub, w_subl, w_lsub, w_mul, w_mull, w_lmul, t_div, t_divl, t_mod, t_modl, i_lt, i_ltl, i_llt, i_le, i_lel, i_lle, i_eq, i_eql, i_leq, Nat.zero_le, d_beq, d_bne, d_bytes, byte_at, Int.toNat_natCast, toNat_lit, decide_eq_true, decide_eq_false, if_pos, if_neg, slA_len, slA_idx, slA_cells, flat_slA, one_slA, cells_slA, map_mid, strV_is, hp_get1, hp_get2, hp_get3, hp_set1, hp_set2, hp_set3, hp_old, hp_sold, set_got, set_set, set_next, set_other, bytesL, bytes_all, List.length_map, aapp_nils, aapp_wr, List.flatMap_cons, List.flatMap_nil, Nat.mul_one]
    refine sameProps_a ho2.p ?_
    simp (maxSteps := 4000000) (disch := (first | omega | (simp only [set_next, List.length_append, List.length_cons, List.length_nil, List.length_take, List.length_drop, List.length_map, List.length_set, List.length_replicate]; omega) | (simp only [set_next, ne_eq, reduceCtorEq, not_false_eq_true]))) only [bne_self_eq_false, e4, go_sem, Nat.reduceLeDiff, Nat.reduceAdd, Nat.reduceSub, Nat.reduceMul, Nat.reduceLT, Int.reduceLT, Int.reduceLE, Int.reduceAdd, Int.reduceSub, Int.reduceMul, Int.reduceToNat, Int.reduceNeg, Int.reduceEq, Nat.reducePow, Int.reducePow, Nat.reduceEqDiff, decide_true, decide_false, reduceIte, reduceCtorEq, Int.reduceBEq, Int.reduceBNe, bne_self_eq_false, Int.cast_ofNat_Int, Bool.not_true, Bool.not_false, IntKind.bits, w_nat, w_lit, w_add, w_addl, w_ladd, w_sub, w_subl, w_lsub, w_mul, w_mull, w_lmul, t_div, t_divl, t_mod, t_modl, i_lt, i_ltl, i_llt, i_le, i_lel, i_lle, i_eq, i_eql, i_leq, Nat.zero_le, d_beq, d_bne, d_bytes, byte_at, Int.toNat_natCast, toNat_lit, decide_eq_true, decide_eq_false, if_pos, if_neg, slA_len, slA_idx, slA_cells, flat_slA, one_slA, cells_slA, map_mid, strV_is, hp_get1, hp_get2, hp_get3, hp_set1, hp_set2, hp_set3, hp_old, hp_sold, set_got, set_set, set_next, set_other, bytesL, bytes_all, List.length_map, aapp_nils, aapp_wr, List.flatMap_cons, List.flatMap_nil, Nat.mul_one]
    refine go_loopS mono (σ := Nat) (fun i => [(7, .int .i64 (i : Int))]) (fun i => hp H [trRow t, trRow u]) (fun i => i ≤ u.kids.length) (fun i => u.kids.length - i) 0 ?_ ?_ (Nat.zero_le _) (fun i hi J hJ => ?_)
    · exact fgt
    · rw [hrt, hru]
    have hil : i ≤ u.kids.length := hi
    rw [hrt, hru]
    rw [hrt, hru] at hJ
    simp only [blurR_nil, blurR_some, blurR_none, blurC_region, blurC_regionN, blurC_fregion, blurT_nil, blurT_cons, blurC_seq, blurC_both, blurC_cond, blurC_block, blurC_loop, blurC_skip, blurC_exit, blurC_ret, tellS_nil, tellS_cons, List.set_cons_zero, List.set_cons_succ, tops_zero, tops_succ]
    by_cases h1 : i < u.kids.length
    · have h1' : i < t.kids.length := by omega
      have ha := tr_at h1'
      have ha2 := tr_at h1
      have hok := ho.ks _ (tr_mem h1')
      have hok2 := ho2.ks _ (tr_mem h1)
      have hee : (t.kids.getD i tr0).strip = (u.kids.getD i tr0).strip := by
        have := congrArg (fun x => x.getD i tr0.strip) e3
        simp only [List.getD_eq_getElem?_getD, List.getElem?_map] at this
        rw [List.getD_eq_getElem?_getD, List.getD_eq_getElem?_getD]
        rw [List.getElem?_eq_getElem h1', List.getElem?_eq_getElem h1] at this ⊢
        exact this
      generalize t.kids.getD i tr0 = k at *
      generalize u.kids.getD i tr0 = k2 at *
      have hVc := Tr.V_cells k
      have hVi := Tr.V_is k
      have hVc2 := Tr.V_cells k2
      have hVi2 := Tr.V_is k2
      refine stp (And.intro ha (And.intro hVc (And.intro ha2 hVc2))) ?_
      rw [← hVi, ← hVi2]
      refine ih _ _ _ _ (by omega) hok hok2 hee ?_
      refine stp0 ?_
      exact hJ (i + 1) _ h1 (by omega) fgt
    · refine stp0 ?_
      exact aret_u hs (h)
theorem Same_b {t u : Tr} (ho : TrOk t) (ho2 : TrOk u) (he : t.strip = u.strip) (h : K (.bool true) H) : (ACalls Tryd.prog) 11 [t.V, u.V] H K := by
  refine acalls_go mo t11 (fun hs hu => ?_)
  have hVi := Tr.V_is t
  have hVi2 := Tr.V_is u
  simp only [c11, Tr.V_is, go_sem, Nat.reduceLeDiff, Nat.reduceAdd, Nat.reduceSub, Nat.reduceMul, Nat.reduceLT, Int.reduceLT, Int.reduceLE, Int.reduceAdd, Int.reduceSub, Int.reduceMul, Int.reduceToNat, Int.reduceNeg, Int.reduceEq, Nat.reducePow, Int.reducePow, Nat.reduceEqDiff, decide_true, decide_false, reduceIte, reduceCtorEq, Int.reduceBEq, Int.reduceBNe, bne_self_eq_false, Int.cast_ofNat_Int, Bool.not_true, Bool.not_false, IntKind.bits]
  rw [← hVi, ← hVi2]
  refine same_b 20 t u _ _ (by omega) ho ho2 he ?_
  refine stp0 ?_
  exact aret_u hs (h)
end
theorem hns_of {p : List UInt8} : ∀ ns, partsP p = some ns → ns.length ≤ 100000 := fun ns h => by
  have := partsP_le h
  omega
theorem hok_of {n : Nat} {f : Tr → Tr × Int} {t : Tr} (hn : n ≤ 100000) (hf : KeepM n f) (ht : TrM n t) : ∀ ns, (downS f ns t.strip).2 = 0 → TrOk (downS f ns t.strip).1 := fun ns he => trm_ok (Nat.le_trans (Nat.succ_le_succ hn) (by decide)) (downS_m hf ns _ (trm_strip ht) he)
def dropS (p : List UInt8) (t : Tr) : Tr × Int := match partsP p with
  | none => (tr0, 8)
  | some ns => if ns = [] then (tr0, 1) else changedS (dropF (ns.getD (ns.length - 1) [])) (joinPs (ns.take (ns.length - 1))) t
section
variable {H : AHeap} {K : AV → AHeap → Prop}
theorem Set_m {n : Nat} {t : Tr} {p nm v : List UInt8} (hn : n ≤ 100000) (ht : TrM n t) (hnm : nm.length ≤ 1000) (hv_ : v.length ≤ 100000) (hp_ : p.length ≤ 90000)
    (h : ∀ t' : Tr, t'.strip = (changedS (setF nm v) p t.strip).1.strip → K (.tup [t'.V, .int .i64 (changedS (setF nm v) p t.strip).2]) H) :
    (ACalls Tryd.prog) 14 [t.V, .str (B p), .str (B nm), .str (B v)] H K :=
  Set_a hnm hv_ (trm_ok (by omega) ht) (trm_b (by omega) ht) (trm_b (by omega) (trm_strip ht)) (by omega) (hok_of hn (setF_m (by omega) hv_) ht) hns_of h
theorem Unset_m {n : Nat} {t : Tr} {p nm : List UInt8} (hn : n ≤ 100000) (ht : TrM n t) (hp_ : p.length ≤ 90000)
    (h : ∀ t' : Tr, t'.strip = (changedS (unsetF nm) p t.strip).1.strip → K (.tup [t'.V, .int .i64 (changedS (unsetF nm) p t.strip).2]) H) :
    (ACalls Tryd.prog) 16 [t.V, .str (B p), .str (B nm)] H K :=
  Unset_a (trm_ok (by omega) ht) (trm_b (by omega) ht) (trm_b (by omega) (trm_strip ht)) (by omega) (hok_of hn unsetF_m ht) hns_of h
theorem Add_m {n : Nat} {t : Tr} {p nm : List UInt8} (hn : n ≤ 100000) (ht : TrM n t) (hnm : nm.length ≤ 1000) (hp_ : p.length ≤ 90000)
    (h : ∀ t' : Tr, t'.strip = (changedS (addF nm) p t.strip).1.strip → K (.tup [t'.V, .int .i64 (changedS (addF nm) p t.strip).2]) H) :
    (ACalls Tryd.prog) 17 [t.V, .str (B p), .str (B nm)] H K :=
  Add_a hnm (trm_ok (by omega) ht) (trm_b (by omega) ht) (trm_b (by omega) (trm_strip ht)) (by omega) (hok_of hn (addF_m (by omega)) ht) hns_of h
theorem joins_take {p : List UInt8} {ns : List (List UInt8)} (h : partsP p = some ns) (hp_ : p.length ≤ 5000) (i : Nat) : (ns.take i).length ≤ 65536 ∧ (∀ s ∈ ns.take i, s.length ≤ 65536) ∧ (joinPs (ns.take i)).length ≤ 50000 := by
  have h8 := partsP_le h
  have hm : ∀ s ∈ ns.take i, s.length ≤ 5000 := fun s hs => Nat.le_trans (parts_mem h s (List.mem_of_mem_take hs)) hp_
  have hl : (ns.take i).length ≤ 8 := by rw [List.length_take]; omega
  have hj := joinPs_len hm
  have := Nat.mul_le_mul_right (5000 + 1) hl
  refine ⟨by omega, fun s hs => Nat.le_trans (hm s hs) (by decide), by omega⟩
theorem Drop_m {n : Nat} {t : Tr} {p : List UInt8} (hn : n ≤ 100000) (ht : TrM n t) (hp_ : p.length ≤ 5000)
    (h : ∀ t' : Tr, t'.strip = (dropS p t.strip).1.strip → K (.tup [t'.V, .int .i64 (dropS p t.strip).2]) H) :
    (ACalls Tryd.prog) 18 [t.V, .str (B p)] H K := by
  refine acalls_go mo t18 (fun hs hu => ?_)
  have hVi := Tr.V_is t
  unfold dropS at h
  simp only [c18, Tr.V_is, go_sem, Nat.reduceLeDiff, Nat.reduceAdd, Nat.reduceSub, Nat.reduceMul, Nat.reduceLT, Int.reduceLT, Int.reduceLE, Int.reduceAdd, Int.reduceSub, Int.reduceMul, Int.reduceToNat, Int.reduceNeg, Int.reduceEq, Nat.reducePow, Int.reducePow, Nat.reduceEqDiff, decide_true, decide_false, reduceIte, reduceCtorEq, Int.reduceBEq, Int.reduceBNe, bne_self_eq_false, Int.cast_ofNat_Int, Bool.not_true, Bool.not_false, IntKind.bits]
  refine Parts_a (by omega) (fun k => ?_)
  cases hpp : partsP p with
  | none =>
    rw [hpp] at h
    have hx := h tr0 rfl
    rw [tr0_V] at hx
    rw [partsV_n]
    refine stp0 ?_
    exact aret_plain hs (by simp only [u_top, u_bool, u_int, u_str, u_nilp, u_nils, u_nilf, u_nilm, u_nili, u_emp, u_byteV, u_ptr, u_wr, u_wc, u_agg, u_tup, u_rd, u_imm, u_func, u_nil, u_cons, u_app, uc_nil, uc_cons, uc_app, u_bytes, uc_bytes, u_ints, uc_ints, cells_bool, cells_int, cells_str, cells_agg, cells_ptr, cells_nils, cells_imm, cells_wr, cells_wc, cells_nilp, cells_nilf, cells_nilm, cells_rd, cells_emp, cells_byteV, cells_func, and_self, and_true, true_and, u_slA, uc_strs, cells_slA, strV_is]) hx
  | some ns =>
    rw [hpp] at h
    rw [partsV_s]
    by_cases h0 : ns = []
    · subst h0
      have hx := h tr0 rfl
      rw [tr0_V] at hx
      have hx : K (.tup [.agg [.str (B []), .nils, .nils], .int .i64 1]) H := hx
      refine stp0 ?_
      exact aret_plain hs (by simp only [u_top, u_bool, u_int, u_str, u_nilp, u_nils, u_nilf, u_nilm, u_nili, u_emp, u_byteV, u_ptr, u_wr, u_wc, u_agg, u_tup, u_rd, u_imm, u_func, u_nil, u_cons, u_app, uc_nil, uc_cons, uc_app, u_bytes, uc_bytes, u_ints, uc_ints, cells_bool, cells_int, cells_str, cells_agg, cells_ptr, cells_nils, cells_imm, cells_wr, cells_wc, cells_nilp, cells_nilf, cells_nilm, cells_rd, cells_emp, cells_byteV, cells_func, and_self, and_true, true_and, u_slA, uc_strs, cells_slA, strV_is]) hx
    · have hl := List.length_pos_iff.2 h0
      have h8 := partsP_le hpp
      simp only [h0, if_false] at h
      obtain ⟨j1, j2, j3⟩ := joins_take hpp hp_ (ns.length - 1)
      obtain ⟨k2, e2⟩ := slA_cut k 1 (ns.map strV) (i := ns.length - 1) (by rw [List.length_map]; omega)
      rw [← List.map_take] at e2
      have e2 : asliceSl 1 (slA k 1 (ns.map strV)) none (some (.int .i64 ((ns.length - 1 : Nat) : Int))) = some (slA k2 1 ((ns.take (ns.length - 1)).map strV)) := e2
      simp only [asliceSl, abound] at e2
      refine stp e2 ?_
      refine ⟨_, Join_a j1 j2 ⟨rfl, rfl⟩, ?_⟩
      refine stp0 ?_
      rw [← hVi]
      refine changed_a (dropDo (names := ns) (last := ns.length - 1) (hp_get _ _ 2) (hp_get _ _ 3) (by omega)) (trm_ok (by omega) ht) (trm_b (by omega) ht) (trm_b (by omega) (trm_strip ht)) (by omega) (fun c hc => ?_) (hok_of hn dropF_m ht) hns_of (fun t' ht' => ?_)
      · simp only [List.mem_cons, List.mem_nil_iff, or_false] at hc
        rcases hc with rfl | rfl
        · exact .ptr _ _ _ (by show H.next + 2 < H.next + 4; omega)
        · exact .ptr _ _ _ (by show H.next + 3 < H.next + 4; omega)
      · have hx := h t' ht'
        have hV2 := Tr.V_is t'
        have hVu := Tr.V_u H.next t'
        rw [hV2] at hx hVu
        refine stp hV2 ?_
        refine aret_plain hs ?_ hx
        simp only [u_tup, u_cons, u_nil, u_int, and_true]
        exact hVu
end
def makeL (ns : List (List UInt8)) : Nat → Nat → Tr → Tr × Int
  | 0, _, t => (if fitsE t = 0 then t else tr0, fitsE t)
  | m + 1, k, t => if (findT t (joinPs (ns.take (k + 1)))).isSome = true then makeL ns m (k + 1) t else
    if (changedS (addF (ns.getD k [])) (joinPs (ns.take k)) t).2 = 0 then makeL ns m (k + 1) (changedS (addF (ns.getD k [])) (joinPs (ns.take k)) t).1.strip else (tr0, (changedS (addF (ns.getD k [])) (joinPs (ns.take k)) t).2)
def makeS (p : List UInt8) (t : Tr) : Tr × Int := match partsP p with
  | none => (tr0, 8)
  | some ns => makeL ns ns.length 0 t
theorem getD_mem {α : Type} {l : List α} {i : Nat} {d : α} (h : i < l.length) : l.getD i d ∈ l := by
  rw [List.getD_eq_getElem?_getD, List.getElem?_eq_getElem h]
  exact List.getElem_mem _
section
variable {H : AHeap} {K : AV → AHeap → Prop}
theorem Make_m {n : Nat} {t : Tr} {p : List UInt8} (hn : n ≤ 90000) (ht : TrM n t) (hp_ : p.length ≤ 900)
    (h : ∀ t' : Tr, t'.strip = (makeS p t.strip).1.strip → K (.tup [t'.V, .int .i64 (makeS p t.strip).2]) H) :
    (ACalls Tryd.prog) 21 [t.V, .str (B p)] H K := by
  refine acalls_go mo t21 (fun hs hu => ?_)
  have hVi := Tr.V_is t
  unfold makeS at h
  simp only [c21, Tr.V_is, go_sem, Nat.reduceLeDiff, Nat.reduceAdd, Nat.reduceSub, Nat.reduceMul, Nat.reduceLT, Int.reduceLT, Int.reduceLE, Int.reduceAdd, Int.reduceSub, Int.reduceMul, Int.reduceToNat, Int.reduceNeg, Int.reduceEq, Nat.reducePow, Int.reducePow, Nat.reduceEqDiff, decide_true, decide_false, reduceIte, reduceCtorEq, Int.reduceBEq, Int.reduceBNe, bne_self_eq_false, Int.cast_ofNat_Int, Bool.not_true, Bool.not_false, IntKind.bits]
  refine Parts_a (by omega) (fun k => ?_)
  cases hpp : partsP p with
  | none =>
    rw [hpp] at h
    have hx := h tr0 rfl
    rw [tr0_V] at hx
    rw [partsV_n]
    refine stp0 ?_
    exact aret_plain hs (by simp only [u_top, u_bool, u_int, u_str, u_nilp, u_nils, u_nilf, u_nilm, u_nili, u_emp, u_byteV, u_ptr, u_wr, u_wc, u_agg, u_tup, u_rd, u_imm, u_func, u_nil, u_cons, u_app, uc_nil, uc_cons, uc_app, u_bytes, uc_bytes, u_ints, uc_ints, cells_bool, cells_int, cells_str, cells_agg, cells_ptr, cells_nils, cells_imm, cells_wr, cells_wc, cells_nilp, cells_nilf, cells_nilm, cells_rd, cells_emp, cells_byteV, cells_func, and_self, and_true, true_and, u_slA, uc_strs, cells_slA, strV_is]) hx
  | some ns =>
    rw [hpp] at h
    simp only at h
    rw [partsV_s]
    have h8 := partsP_le hpp
    have hmem := parts_mem hpp
    refine stp0 ?_
    rw [← hp_nil (H := hp H _)]
    refine go_loopS mono (σ := AHeap × Tr × Nat) (fun z => [(23, .int .i64 (z.2.2 : Int))]) (fun z => hp z.1 []) (fun z => Past H z.1 ∧ z.2.2 ≤ ns.length ∧ TrM (n + z.2.2) z.2.1 ∧ makeL ns (ns.length - z.2.2) z.2.2 z.2.1.strip = makeL ns ns.length 0 t.strip ∧ z.1.get (H.next + 0) = some (trRow z.2.1) ∧ z.1.get (H.next + 1) = some (trRow tr0)) (fun z => ns.length - z.2.2) (hp H [trRow t, trRow tr0], t, 0) ?_ rfl ⟨past_hp past_refl _, Nat.zero_le _, ht, rfl, hp_get _ _ 0, hp_get _ _ 1⟩ (fun z hz J hJ => ?_)
    · exact fgt
    obtain ⟨G, u, i⟩ := z
    obtain ⟨hG, hil, hum, hmk, hg0, hg1⟩ := hz
    simp only at hG hil hum hmk hg0 hg1
    have hl0 := G.lt hg0
    have hl1 := G.lt hg1
    have huo := trm_ok (by omega) hum
    have hVu := Tr.V_is u
    rw [trRow_is] at hg0 hg1
    simp only [blurR_nil, blurR_some, blurR_none, blurC_region, blurC_regionN, blurC_fregion, blurT_nil, blurT_cons, blurC_seq, blurC_both, blurC_cond, blurC_block, blurC_loop, blurC_skip, blurC_exit, blurC_ret, tellS_nil, tellS_cons, List.set_cons_zero, List.set_cons_succ, tops_zero, tops_succ]
    by_cases h1 : i < ns.length
    · have hJ2 := fun (G2 : AHeap) (u2 : Tr) (p1 : Past H G2) (p2 : TrM (n + (i + 1)) u2) p3 p4 p5 a' => hJ (G2, u2, i + 1) a' ⟨p1, h1, p2, p3, p4, p5⟩ (by show ns.length - (i + 1) < ns.length - i; omega)
      clear hJ
      obtain ⟨m, hm⟩ : ∃ m, ns.length - i = m + 1 := ⟨ns.length - i - 1, by omega⟩
      have hm2 : ns.length - (i + 1) = m := by omega
      rw [hm, makeL] at hmk
      simp only [hm2] at hJ2
      obtain ⟨j1, j2, j3⟩ := joins_take hpp (by omega) (i + 1)
      obtain ⟨q1, q2, q3⟩ := joins_take hpp (by omega) i
      obtain ⟨k2, e2⟩ := slA_cut k 1 (ns.map strV) (i := i + 1) (by rw [List.length_map]; omega)
      obtain ⟨k3, e3⟩ := slA_cut k 1 (ns.map strV) (i := i) (by rw [List.length_map]; omega)
      rw [← List.map_take] at e2 e3
      simp only [asliceSl, abound] at e2 e3
      have hat := strs_at h1
      have hnl : (ns.getD i []).length ≤ 900 := Nat.le_trans (hmem _ (getD_mem h1)) hp_
      refine stp (And.intro hg0 e2) ?_
      refine ⟨_, Join_a j1 j2 ⟨rfl, rfl⟩, ?_⟩
      refine stp0 ?_
      rw [← hVu]
      refine Find_a huo (by omega) ?_
      rw [foundV_is]
      have hfs : (findT u.strip (joinPs (ns.take (i + 1)))).isSome = (findT u (joinPs (ns.take (i + 1)))).isSome := by rw [findT_strip, Option.isSome_map]
      rw [hfs] at hmk
      cases hf : (findT u (joinPs (ns.take (i + 1)))).isSome with
      | true =>
        rw [hf, if_pos rfl] at hmk
        generalize (findT u (joinPs (ns.take (i + 1)))).getD tr0 = fu at *
        refine stp0 ?_
        rw [← hp_nil (H := hp G _)]
        refine hJ2 _ u (past_hp hG _) (trm_up (by omega) hum) hmk ?_ ?_ _ fgt
        · rw [hp_old hl0, hg0, trRow_is]
        · rw [hp_old hl1, hg1, trRow_is]
      | false =>
        rw [hf, if_neg Bool.false_ne_true] at hmk
        generalize (findT u (joinPs (ns.take (i + 1)))).getD tr0 = fu at *
        refine stp (And.intro hg0 e3) ?_
        refine ⟨_, Join_a q1 q2 ⟨rfl, rfl⟩, ?_⟩
        refine stp hat ?_
        rw [← hVu]
        refine Add_m (by omega) hum (by omega) (by omega) (fun t' ht' => ?_)
        have htm : TrM (n + (i + 1)) t' := trm_of _ t' (Nat.le_refl _) (by rw [ht']; exact trm_strip (changedS_m (n := n + i) (addF_m (by omega)) (trm_strip hum)))
        generalize changedS (addF (ns.getD i [])) (joinPs (ns.take i)) u.strip = r at *
        have hVt := Tr.V_is t'
        by_cases he : r.2 = 0
        · rw [if_pos he, ← ht'] at hmk
          refine stp (And.intro he (And.intro hVt hg0)) ?_
          rw [← hp_nil (H := hp (G.set _ _) _)]
          refine hJ2 _ t' (past_hp (past_set hG (by omega) _) _) htm hmk ?_ ?_ _ fgt
          · rw [hp_old (by rw [set_next]; omega), set_got (by omega), trRow_is]
          · rw [hp_old (by rw [set_next]; omega), set_other (by omega), hg1, trRow_is]
        · rw [if_neg he] at hmk
          rw [← hmk] at h
          have hx := h tr0 rfl
          rw [tr0_V] at hx
          refine stp (And.intro he (And.intro hVt hg1)) ?_
          exact aret_past (past_hp (past_set hG (by omega) _) _) hs (by simp only [u_top, u_bool, u_int, u_str, u_nilp, u_nils, u_nilf, u_nilm, u_nili, u_emp, u_byteV, u_ptr, u_wr, u_wc, u_agg, u_tup, u_rd, u_imm, u_func, u_nil, u_cons, u_app, uc_nil, uc_cons, uc_app, u_bytes, uc_bytes, u_ints, uc_ints, cells_bool, cells_int, cells_str, cells_agg, cells_ptr, cells_nils, cells_imm, cells_wr, cells_wc, cells_nilp, cells_nilf, cells_nilm, cells_rd, cells_emp, cells_byteV, cells_func, and_self, and_true, true_and, u_slA, uc_strs, cells_slA, strV_is]) hx
    · have hie : i = ns.length := by omega
      subst hie
      rw [Nat.sub_self, makeL] at hmk
      rw [← hmk] at h
      refine stp hg0 ?_
      rw [← hVu, hp_nil]
      refine Copy_a _ u (Nat.le_refl _) (trm_b (by omega) hum) _ _ (fun cs G2 F hm hnd hge hP hw => ?_)
      obtain ⟨G3, t3, hSh, hst, hn3, ho3⟩ := mt_freeze hm hnd
      have hg1b : G2.get (H.next + 1) = some (.row 25 0 [.str (B []), .nils, .nils]) := (hP.get _ hl1).trans hg1
      have hres2 : G3.get (H.next + 1) = some (.row 25 0 [.str (B []), .nils, .nils]) := (ho3 _ (fun q => by have := hge _ q; omega)).trans hg1b
      have hPG : Past H G3 := by
        refine past_trans hG ⟨by have := hP.next; omega, fun x hx => ?_⟩
        exact (ho3 x (fun q => by have := hge _ q; omega)).trans (hP.get x hx)
      rw [← hp_nil (H := G2)]
      refine stp0 ?_
      rw [hp_nil]
      refine acalls_shut (pre := []) hSh ?_
      have hot : TrOk t3 := trok_of_strip _ t3 (Nat.le_refl _) (by rw [hst]; exact trm_ok (by omega) (trm_strip hum))
      refine fits_a hot ?_
      have hff : fitsE u.strip = fitsE t3 := by rw [← hst, fitsE_strip]
      have hx := h (if fitsE t3 = 0 then t3 else tr0) (by
        rw [hff]
        by_cases hz : fitsE t3 = 0
        · rw [if_pos hz]
          rw [if_pos hz, ← hst, strip_strip _ t3 (Nat.le_refl _)]
        · rw [if_neg hz]
          rw [if_neg hz])
      simp only [hff] at hx
      generalize (if fitsE t3 = 0 then t3 else tr0) = tt at *
      have hVt := Tr.V_is tt
      have hVu2 := Tr.V_u H.next tt
      have hlr2 := G3.lt hres2
      rw [hVt] at hx hVu2
      rw [← hp_nil (H := G3)]
      refine stp (And.intro hVt hres2) ?_
      refine aret_past (past_hp (past_set hPG (by omega) _) []) hs ?_ hx
      simp only [u_tup, u_cons, u_nil, u_int, and_true]
      exact hVu2
end
def prF (two : Bool) (nm v : List UInt8) : List (List UInt8 × List UInt8) → List (List UInt8 × List UInt8) × Bool
  | [] => ([], false)
  | x :: l => if x.1 = nm then ((if two = true then l else (x.1, v) :: l), true) else (x :: (prF two nm v l).1, (prF two nm v l).2)
theorem prF_set (nm v : List UInt8) : ∀ l : List (List UInt8 × List UInt8), setPr nm v l = if (prF false nm v l).2 = true then (prF false nm v l).1 else (prF false nm v l).1 ++ [(nm, v)]
  | [] => rfl
  | x :: l => by
    rw [setPr, prF]
    by_cases h : x.1 = nm
    · rw [if_pos h, if_pos h]
      rfl
    · rw [if_neg h, if_neg h, prF_set nm v l]
      cases (prF false nm v l).2 <;> rfl
theorem prF_cut (nm v : List UInt8) : ∀ l : List (List UInt8 × List UInt8), cutF (fun x : List UInt8 × List UInt8 => decide (x.1 = nm)) l = if (prF true nm v l).2 = true then some (prF true nm v l).1 else none
  | [] => rfl
  | x :: l => by
    rw [cutF, prF]
    by_cases h : x.1 = nm
    · rw [if_pos (decide_eq_true h), if_pos h]
      rfl
    · rw [if_neg (by rw [decide_eq_false h]; exact Bool.false_ne_true), if_neg h, prF_cut nm v l]
      cases (prF true nm v l).2 <;> rfl
def PrI (two : Bool) (nm v : List UInt8) (l out : List (List UInt8 × List UInt8)) (b : Bool) (i : Nat) : Prop :=
  (b = true → out ++ l.drop i = (prF two nm v l).1 ∧ (prF two nm v l).2 = true) ∧ (b = false → out ++ (prF two nm v (l.drop i)).1 = (prF two nm v l).1 ∧ (prF two nm v (l.drop i)).2 = (prF two nm v l).2)
theorem propV_one (p : List UInt8 × List UInt8) : (([p].map propV).flatMap AV.cells).all AV.one = true := rfl
section
variable {H : AHeap} {K : AV → AHeap → Prop}
theorem rMayKid_a {s : List UInt8} (hl : s.length ≤ 1000000) (h : K (.bool (mayK s)) H) : (ACalls Tryd.prog) 80 [.str (B s)] H K := by
  refine acalls_go mo t80 (fun hs hu => ?_)
  unfold mayK at h
  simp only [c80, go_sem, Nat.reduceLeDiff, Nat.reduceAdd, Nat.reduceSub, Nat.reduceMul, Nat.reduceLT, Int.reduceLT, Int.reduceLE, Int.reduceAdd, Int.reduceSub, Int.reduceMul, Int.reduceToNat, Int.reduceNeg, Int.reduceEq, Nat.reducePow, Int.reducePow, Nat.reduceEqDiff, decide_true, decide_false, reduceIte, reduceCtorEq, Int.reduceBEq, Int.reduceBNe, bne_self_eq_false, Int.cast_ofNat_Int, Bool.not_true, Bool.not_false, IntKind.bits]
  refine go_loopS mono (σ := List UInt8 × List UInt8) (fun s => [(3, .int .i64 (s.1.length : Int))]) (fun i => hp H []) (fun x => x.1 ++ x.2 = s ∧ (47 : UInt8) ∉ x.1) (fun s => s.2.length) ([], s) ?_ rfl ⟨rfl, by simp⟩ (fun x hx J hJ => ?_)
  · exact fgt
  obtain ⟨p, q⟩ := x
  obtain ⟨hx, hp0⟩ := hx
  simp only at hx hp0 hJ ⊢
  subst hx
  simp only [blurR_nil, blurR_some, blurR_none, blurC_region, blurC_regionN, blurC_fregion, blurT_nil, blurT_cons, blurC_seq, blurC_both, blurC_cond, blurC_block, blurC_loop, blurC_skip, blurC_exit, blurC_ret, tellS_nil, tellS_cons, List.set_cons_zero, List.set_cons_succ, tops_zero, tops_succ]
  rcases q with _ | ⟨t, q⟩
  · rw [List.append_nil] at h hl
    rw [cut1_not hp0] at h
    simp (maxSteps := 4000000) (disch := (first | omega | (simp only [set_next, List.length_append, List.length_cons, List.length_nil, List.length_take, List.length_drop, List.length_map, List.length_set, List.length_replicate]; omega) | (simp only [set_next, ne_eq, reduceCtorEq, not_false_eq_true]))) only [List.append_nil, go_sem, Nat.reduceLeDiff, Nat.reduceAdd, Nat.reduceSub, Nat.reduceMul, Nat.reduceLT, Int.reduceLT, Int.reduceLE, Int.reduceAdd, Int.reduceSub, Int.reduceMul, Int.reduceToNat, Int.reduceNeg, Int.reduceEq, Nat.reducePow, Int.reducePow, Nat.reduceEqDiff, decide_true, decide_false, reduceIte, reduceCtorEq, Int.reduceBEq, Int.reduceBNe, bne_self_eq_false, Int.cast_ofNat_Int, Bool.not_true, Bool.not_false, IntKind.bits, w_nat, w_lit, w_add, w_addl, w_ladd, w_sub, w_subl, w_lsub, w_mul, w_mull, w_lmul, t_div, t_divl, t_mod, t_modl, i_lt, i_ltl, i_llt, i_le, i_lel, i_lle, i_eq, i_eql, i_leq, Nat.zero_le, d_beq, d_bne, d_bytes, byte_at, Int.toNat_natCast, toNat_lit, decide_eq_true, decide_eq_false, if_pos, if_neg, slA_len, slA_idx, slA_cells, flat_slA, one_slA, cells_slA, map_mid, strV_is, hp_get1, hp_get2, hp_get3, hp_set1, hp_set2, hp_set3, hp_old, hp_sold, set_got, set_set, set_next, set_other, bytesL, bytes_all, List.length_map, aapp_nils, aapp_wr, List.flatMap_cons, List.flatMap_nil, Nat.mul_one]
    refine rmay_a hl ?_
    refine stp0 ?_
    exact aret_u hs (by simpa using h)
  · have ht := t.toNat_lt
    have hpg : (p ++ t :: q)[p.length]? = some t := by simp
    simp only [List.length_append, List.length_cons] at hl
    refine stp hpg ?_
    refine cnd_dec (fun h1 => ?_) (fun h1 => ?_)
    · have h2 : t = 47 := UInt8.toNat_inj.1 (by show t.toNat = 47; omega)
      subst h2
      have : (cut1 47 (p ++ 47 :: q)).2.2 = true := cut1_mem.2 (by simp)
      rw [this] at h
      refine stp0 ?_
      exact aret_u hs (by simpa using h)
    · refine stp0 ?_
      refine hJ (p ++ [t], q) _ ⟨by simp, ?_⟩ (by simp) ?_
      · simp only [List.mem_append, List.mem_singleton, not_or]
        exact ⟨hp0, fun e => h1 (by rw [← e]; rfl)⟩
      · simp only [List.length_append, List.length_cons, List.length_nil, Nat.zero_add]
        exact fgt
theorem rprops_a {two : Bool} {kind : Int} (hk : kind = if two = true then 2 else 1) {k : Nat} {nm v : List UInt8} {l : List (List UInt8 × List UInt8)} (hl : l.length ≤ 1000000)
    (h : ∀ k, K (.tup [slA k 2 ((if two = true then (prF true nm v l).1 else setPr nm v l).map propV), .bool (prF two nm v l).2]) H) :
    (ACalls Tryd.prog) 79 [slA k 2 (l.map propV), .agg [.int .i64 kind, .str (B nm), .str (B v)]] H K := by
  refine acalls_go mo t79 (fun hs hu => ?_)
  simp only [c79, go_sem, Nat.reduceLeDiff, Nat.reduceAdd, Nat.reduceSub, Nat.reduceMul, Nat.reduceLT, Int.reduceLT, Int.reduceLE, Int.reduceAdd, Int.reduceSub, Int.reduceMul, Int.reduceToNat, Int.reduceNeg, Int.reduceEq, Nat.reducePow, Int.reducePow, Nat.reduceEqDiff, decide_true, decide_false, reduceIte, reduceCtorEq, Int.reduceBEq, Int.reduceBNe, bne_self_eq_false, Int.cast_ofNat_Int, Bool.not_true, Bool.not_false, IntKind.bits]
  rw [← hp_nil (H := hp H _)]
  refine go_loopS mono (σ := AHeap × AV × List (List UInt8 × List UInt8) × Bool × Nat) (fun z => [(6, z.2.1), (7, .bool z.2.2.2.1), (8, .int .i64 (z.2.2.2.2 : Int))]) (fun z => hp z.1 []) (fun z => SlAt H.next z.1 62 2 z.2.1 (z.2.2.1.map propV) ∧ Past H z.1 ∧ z.1.get (H.next + 0) = some (.row 27 0 [.int .i64 kind, .str (B nm), .str (B v)]) ∧ z.2.2.2.2 ≤ l.length ∧ z.2.2.1.length ≤ z.2.2.2.2 ∧ PrI two nm v l z.2.2.1 z.2.2.2.1 z.2.2.2.2) (fun z => l.length - z.2.2.2.2) (hp H [.row 27 0 [.int .i64 kind, .str (B nm), .str (B v)]], .nils, [], false, 0) ?_ rfl ⟨slat_nil, past_hp past_refl _, hp_get _ _ 0, Nat.zero_le _, Nat.zero_le _, ⟨fun q => (by cases q), fun _ => ⟨rfl, rfl⟩⟩⟩ (fun z hz J hJ => ?_)
  · exact fgt
  obtain ⟨G, v2, out, b, i⟩ := z
  obtain ⟨hv2, hG, hg0, hil, hol, hI⟩ := hz
  simp only at hv2 hG hg0 hil hol hI
  have hl0 := G.lt hg0
  simp only [blurR_nil, blurR_some, blurR_none, blurC_region, blurC_regionN, blurC_fregion, blurT_nil, blurT_cons, blurC_seq, blurC_both, blurC_cond, blurC_block, blurC_loop, blurC_skip, blurC_exit, blurC_ret, tellS_nil, tellS_cons, List.set_cons_zero, List.set_cons_succ, tops_zero, tops_succ]
  by_cases h1 : i < l.length
  · have ha := prop_at h1
    have hJ2 := fun (G2 : AHeap) (v3 : AV) (o2 : List (List UInt8 × List UInt8)) (b2 : Bool) p1 p2 p3 p4 p5 a' => hJ (G2, v3, o2, b2, i + 1) a' ⟨p1, p2, p3, h1, p4, p5⟩ (by show l.length - (i + 1) < l.length - i; omega)
    clear hJ
    have hd : l.drop i = l.getD i ([], []) :: l.drop (i + 1) := by
      rw [List.drop_eq_getElem_cons h1, List.getD_eq_getElem?_getD, List.getElem?_eq_getElem h1]
      rfl
    unfold PrI at hI hJ2
    rw [hd, prF] at hI
    generalize l.getD i ([], []) = x at *
    have happ : ∀ (y : List UInt8 × List UInt8) (R : List AV), ∃ v3 G3, aapp 62 2 32 (hp G [.row 62 0 R]) v2 (.imm 2 [.agg [.str (B y.1), .str (B y.2)]]) = some (v3, hp G3 []) ∧ SlAt H.next G3 62 2 v3 ((out ++ [y]).map propV) ∧ Beside H.next v2 (hp G [.row 62 0 R]) G3 := fun y R => by
      obtain ⟨v3, G3, q1, q2, q3⟩ := slat_app (b := 32) (ys := [y].map propV) (slat_hp hv2 [.row 62 0 R]) (by have := hG.next; show H.next ≤ G.next + 1; omega) (props_len _) (propV_one y) (by simp only [List.length_map, List.length_cons, List.length_nil]; omega)
      exact ⟨v3, G3, q1, by rw [List.map_append]; exact q2, q3⟩
    cases b with
    | true =>
      obtain ⟨I1, I2⟩ := hI.1 rfl
      obtain ⟨v3, G3, q1, q2, q3⟩ := happ x [.str (B x.1), .str (B x.2)]
      refine stp (And.intro ha (And.intro @propV_cells q1)) ?_
      refine hJ2 G3 v3 (out ++ [x]) true q2 (beside_past q3 (Nat.le_refl _) (past_hp hG _)) (q3.other _ _ ((hp_old hl0).trans hg0) (slat_ne2 hv2 hg0 (by decide))) (by show (out ++ [x]).length ≤ i + 1; rw [List.length_append, List.length_singleton]; omega) ⟨fun _ => ⟨by rw [List.append_assoc]; exact I1, I2⟩, fun q => (by cases q)⟩ _ fgt
    | false =>
      obtain ⟨I1, I2⟩ := hI.2 rfl
      by_cases h2 : x.1 = nm
      · rw [if_pos h2] at I1 I2
        cases two with
        | true =>
          rw [if_pos rfl] at hk I1
          have hk2 : (kind = 2) = True := eq_true hk
          have hk3 : (kind == 2) = true := by rw [hk]; rfl
          refine stp (And.intro ha (And.intro @propV_cells (And.intro hg0 (And.intro h2 (And.intro hk2 hk3))))) ?_
          rw [← hp_nil (H := hp G _)]
          exact hJ2 _ v2 out true (slat_hp hv2 _) (past_hp hG _) ((hp_old hl0).trans hg0) (by show out.length ≤ i + 1; omega) ⟨fun _ => ⟨I1, I2.symm⟩, fun q => (by cases q)⟩ _ fgt
        | false =>
          rw [if_neg Bool.false_ne_true] at hk I1
          obtain ⟨v3, G3, q1, q2, q3⟩ := happ (nm, v) [.str (B nm), .str (B v)]
          rw [h2] at I1
          have hk2 : (kind = 2) = False := eq_false (by omega)
          have hk3 : (kind == 2) = false := by rw [hk]; rfl
          refine stp (And.intro ha (And.intro @propV_cells (And.intro hg0 (And.intro h2 (And.intro hk2 (And.intro hk3 q1)))))) ?_
          refine hJ2 G3 v3 (out ++ [(nm, v)]) true q2 (beside_past q3 (Nat.le_refl _) (past_hp hG _)) (q3.other _ _ ((hp_old hl0).trans hg0) (slat_ne2 hv2 hg0 (by decide))) (by show (out ++ [(nm, v)]).length ≤ i + 1; rw [List.length_append, List.length_singleton]; omega) ⟨fun _ => ⟨by rw [List.append_assoc]; exact I1, I2.symm⟩, fun q => (by cases q)⟩ _ fgt
      · rw [if_neg h2] at I1 I2
        obtain ⟨v3, G3, q1, q2, q3⟩ := happ x [.str (B x.1), .str (B x.2)]
        refine stp (And.intro ha (And.intro @propV_cells (And.intro hg0 (And.intro h2 q1)))) ?_
        refine hJ2 G3 v3 (out ++ [x]) false q2 (beside_past q3 (Nat.le_refl _) (past_hp hG _)) (q3.other _ _ ((hp_old hl0).trans hg0) (slat_ne2 hv2 hg0 (by decide))) (by show (out ++ [x]).length ≤ i + 1; rw [List.length_append, List.length_singleton]; omega) ⟨fun q => (by cases q), fun _ => ⟨by rw [List.append_assoc]; exact I1, I2⟩⟩ _ fgt
  · unfold PrI at hI
    rw [List.drop_of_length_le (by omega), prF, List.append_nil] at hI
    have hfin : ∀ (G2 : AHeap) (v3 : AV) (o : List (List UInt8 × List UInt8)), SlAt H.next G2 62 2 v3 (o.map propV) → Past H G2 → o = (if two = true then (prF true nm v l).1 else setPr nm v l) → b = (prF two nm v l).2 → ARet H.next K (.tup [v3, .bool b]) G2 := fun G2 v3 o p1 p2 p3 p4 => by
      obtain ⟨G4, k4, s1, s2⟩ := slat_shut p1 (props_len o)
      refine aret_shut (.tup _ _ [] [.bool b] _ _ s1) (s2 H (Nat.le_refl _) p2) hs ?_ (by rw [p3, p4]; exact h k4)
      simp only [List.nil_append, u_tup, u_cons, u_nil, u_bool, u_slA, and_true]
      exact props_u _ o
    cases b with
    | true =>
      obtain ⟨I1, I2⟩ := hI.1 rfl
      refine stp hg0 ?_
      refine hfin _ _ out (slat_hp hv2 []) (past_hp hG []) ?_ I2.symm
      rw [I1]
      cases two with
      | true => rfl
      | false => rw [if_neg Bool.false_ne_true, prF_set, if_pos I2]
    | false =>
      obtain ⟨I1, I2⟩ := hI.2 rfl
      cases two with
      | true =>
        rw [if_pos rfl] at hk
        have hk2 : (kind = 1) = False := eq_false (by omega)
        have hk3 : (kind == 1) = false := by rw [hk]; rfl
        refine stp (And.intro hg0 (And.intro hk2 hk3)) ?_
        exact hfin _ _ out (slat_hp hv2 []) (past_hp hG []) I1 I2
      | false =>
        rw [if_neg Bool.false_ne_true] at hk
        have hk2 : (kind = 1) = True := eq_true hk
        have hk3 : (kind == 1) = true := by rw [hk]; rfl
        obtain ⟨v3, G3, q1, q2, q3⟩ := slat_app (b := 32) (ys := [(nm, v)].map propV) (slat_hp hv2 []) (by rw [hp_nil]; exact hG.next) (props_len _) (propV_one (nm, v)) (by simp only [List.length_map, List.length_cons, List.length_nil]; omega)
        rw [← List.map_append] at q2
        have q1 : aapp 62 2 32 (hp G []) v2 (.imm 2 [.agg [.str (B nm), .str (B v)]]) = some (v3, hp G3 []) := q1
        refine stp (And.intro hg0 (And.intro hk2 (And.intro hk3 q1))) ?_
        refine hfin _ _ (out ++ [(nm, v)]) (slat_hp q2 []) (past_hp (beside_past q3 (Nat.le_refl _) (past_hp hG [])) []) ?_ I2
        rw [I1, if_neg Bool.false_ne_true, prF_set, if_neg (by rw [← I2]; exact Bool.false_ne_true)]
end
end Go.Proofs.YtdknpnmdjjmapaaDoor.AL
