/- What is wrong with a node's names, told. -/
import Derived.Test.YtblflecalomgfaaQGrammarFindsALGram3
set_option linter.unusedSimpArgs false
set_option linter.unusedVariables false
set_option maxRecDepth 100000
set_option maxHeartbeats 16000000
namespace Go.Proofs.Ytblflecalomgfaa.AL
open Go Go.Proofs
attribute [local go_sem] go_seq go_skip go_region go_regionN go_fregion rgF_some go_cond go_block go_exit go_ret nxt_nil nxt_code nxt_blk nxt_cut leave_nil leave_code leave_cut leave_blk rtn_nil rtn_code rtn_blk rtn_cut cnd_t cnd_f rgn_nil rgY_some rgY_none rgH_some rgP_some retTo_is rgV_func grd_und grd_tt grd_ff grd_tf grd_ft rgn_q rgn_alloc rgn_box rgn_store rgn_lit rgn_litw litCells_nil litCells_cons rgn_app rgn_copy rgn_mk rgn_s2b rgn_call rgn_callv rgn_stop rgn_slice3 aslice3 rgn_put rgn_mkmap rgn_lookup rgn_mapup alookup_nilm alookup_map amapup_map afound_ok afound_no rgn_c rgn_cv qclV_func aloadr rgn_guard post_ret post_normal retY_some ares aresL ares1 AX.ev aput List.getD_cons_zero List.getD_cons_succ List.set_cons_zero List.set_cons_succ List.map_cons List.map_nil aq abin aint astr abeq aconv asame aextract alenS alenL_nils alenL_emp alenL_imm alenL_wr aun apart aload afieldAddr afield aidxSl_wr aidxSl_imm aidxPt aidxStr aidxArr abound asliceStr asliceSl asliceArr abest anonil afill astore acells_nils acells_emp acells_imm acells_wr acells_str acopy litAll amk as2b anil nilOf aseq aeqs aeqv fits fit1 hp_next hp_push hp_get hp_set List.length_cons List.length_nil List.getElem?_cons_zero List.getElem?_cons_succ List.cons_append List.nil_append List.append_nil List.take_succ_cons List.take_zero List.drop_succ_cons List.drop_zero List.all_cons List.all_nil Option.map_some Option.some.injEq Bool.and_true Bool.true_and Bool.false_eq_true if_true if_false ite_true ite_false Bool.and_self true_and and_true and_self Nat.zero_add Nat.le_refl Int.toNat_natCast beq_self_eq_true eq_self tops_zero tops_succ Int.natCast_nonneg List.take_nil List.drop_nil Option.map_none flat_bool one_bool cells_bool flat_int one_int cells_int flat_str one_str cells_str flat_nilp one_nilp cells_nilp flat_ptr one_ptr cells_ptr flat_nils one_nils cells_nils flat_imm one_imm cells_imm flat_wr one_wr cells_wr flat_func one_func cells_func flat_nilf one_nilf cells_nilf flat_map one_map cells_map flat_nilm one_nilm cells_nilm flat_iface one_iface cells_iface flat_nili one_nili cells_nili flat_rd one_rd cells_rd flat_emp one_emp cells_emp flat_byteV one_byteV cells_byteV flat_agg cells_agg one_agg B_size B_list B_ext B_toList B_app List.take_length Int.le_refl
def pnames (t : Tr) : List (List UInt8) := t.props.map (·.1)
def knames (t : Tr) : List (List UInt8) := t.kids.map Tr.name
def hereErr (t : Tr) : Int := if nmErr propOk (pnames t) = 0 then nmErr nodeOk (knames t) else nmErr propOk (pnames t)
theorem strs_len (ls : List (List UInt8)) : ∀ x ∈ ls.map strV, x.cells.length = 1 := fun x hx => by obtain ⟨n, _, rfl⟩ := List.mem_map.1 hx; rfl
theorem strs_u (n : Nat) (ls : List (List UInt8)) : AllC n (ls.map strV) := by rw [uc_strs]; trivial
theorem map_take_step {α β : Type} (f : α → β) {l : List α} {i : Nat} {d : α} (h : i < l.length) : (l.take (i + 1)).map f = (l.take i).map f ++ [f (l.getD i d)] := by
  rw [List.take_add_one, List.getElem?_eq_getElem h, List.map_append, List.getD_eq_getElem?_getD, List.getElem?_eq_getElem h]
  rfl
def pcell2 (p : List UInt8 × List UInt8) : AObj := .row 95 0 [.str (B p.1), .str (B p.2)]
theorem pcell2_u (n : Nat) (p : List UInt8 × List UInt8) : (pcell2 p).under n := by
  intro c hc
  simp only [List.mem_cons, List.not_mem_nil, or_false] at hc
  rcases hc with rfl | rfl <;> exact .str _
/-- A tree of which the parts are few. -/
structure Few1 (t : Tr) : Prop where
  ok : TrOk t
  p : t.props.length ≤ 300
  k : t.kids.length ≤ 80
  ps : ∀ p ∈ t.props, p.1.length ≤ 100
  ks : ∀ k ∈ t.kids, k.name.length ≤ 100
theorem here_a {t : Tr} (ho : Few1 t) {H : AHeap} {K : AV → AHeap → Prop} (h : K (.int .i64 (hereErr t)) H) : (ACalls Try.prog) 114 [t.V] H K := by
  refine acalls_go mo t114 (fun hs hu => ?_)
  have hp1 := ho.p
  have hk1 := ho.k
  unfold hereErr at h
  simp only [c114, Tr.V_is, go_sem, Nat.reduceLeDiff, Nat.reduceAdd, Nat.reduceSub, Nat.reduceMul, Nat.reduceLT, Int.reduceLT, Int.reduceLE, Int.reduceAdd, Int.reduceSub, Int.reduceMul, Int.reduceToNat, Int.reduceNeg, Int.reduceEq, Nat.reducePow, Int.reducePow, Nat.reduceEqDiff, decide_true, decide_false, reduceIte, reduceCtorEq, Int.reduceBEq, Int.reduceBNe, bne_self_eq_false, Int.cast_ofNat_Int, Bool.not_true, Bool.not_false, IntKind.bits]
  simp (maxSteps := 4000000) (disch := (first | omega | (simp only [set_next, List.length_append, List.length_cons, List.length_nil, List.length_take, List.length_drop, List.length_map, List.length_set, List.length_replicate]; omega) | (simp only [set_next, ne_eq, reduceCtorEq, not_false_eq_true]))) only [go_sem, Nat.reduceLeDiff, Nat.reduceAdd, Nat.reduceSub, Nat.reduceMul, Nat.reduceLT, Int.reduceLT, Int.reduceLE, Int.reduceAdd, Int.reduceSub, Int.reduceMul, Int.reduceToNat, Int.reduceNeg, Int.reduceEq, Nat.reducePow, Int.reducePow, Nat.reduceEqDiff, decide_true, decide_false, reduceIte, reduceCtorEq, Int.reduceBEq, Int.reduceBNe, bne_self_eq_false, Int.cast_ofNat_Int, Bool.not_true, Bool.not_false, IntKind.bits, w_nat, w_lit, w_add, w_addl, w_ladd, w_sub, w_subl, w_lsub, w_mul, w_mull, w_lmul, t_div, t_divl, t_mod, t_modl, i_lt, i_ltl, i_llt, i_le, i_lel, i_lle, i_eq, i_eql, i_leq, Nat.zero_le, d_beq, d_bne, d_bytes, byte_at, Int.toNat_natCast, toNat_lit, decide_eq_true, decide_eq_false, if_pos, if_neg, slA_len, slA_idx, slA_cells, flat_slA, one_slA, cells_slA, map_mid, strV_is, hp_get1, hp_get2, hp_get3, hp_set1, hp_set2, hp_set3, hp_old, hp_sold, set_got, set_set, set_next, set_other, bytesL, bytes_all, List.length_map, aapp_nils, aapp_wr, List.flatMap_cons, List.flatMap_nil, Nat.mul_one]
  rw [← hp_nil (H := hp H _)]
  have hw0 : (hp H [trRow t]).within (hp H [trRow t]).next := within_hp2 hs (fun o ho => by rw [List.mem_singleton] at ho; subst ho; exact trRow_u _ _)
  refine go_loopS mono (σ := AHeap × AV × Nat) (fun z => [(3, z.2.1), (13, .int .i64 (z.2.2 : Int))]) (fun z => hp z.1 []) (fun z => Past H z.1 ∧ z.1.within z.1.next ∧ SlAt H.next z.1 9 1 z.2.1 (((t.props.take z.2.2).map (·.1)).map strV) ∧ z.1.get (H.next + 0) = some (trRow t) ∧ z.2.2 ≤ t.props.length) (fun z => t.props.length - z.2.2) (hp H [trRow t], .nils, 0) ?_ rfl ⟨past_hp past_refl _, hw0, slat_nil, hp_get _ _ 0, Nat.zero_le _⟩ (fun z hz J hJ => ?_)
  · (simp only [blurR_nil, blurR_some, blurR_none, blurC_region, blurC_regionN, blurC_fregion, blurT_nil, blurT_cons, blurC_seq, blurC_cond, blurC_block, blurC_loop, blurC_skip, blurC_exit, blurC_ret, tellS_nil, tellS_cons, List.set_cons_zero, List.set_cons_succ, tops_zero, tops_succ]; repeat first | exact forget_nil | apply forget_keep | apply forget_top)
  obtain ⟨G, v, i⟩ := z
  obtain ⟨hG, hw, hv, hg0, hil⟩ := hz
  simp only at hG hw hv hg0 hil
  simp only [blurR_nil, blurR_some, blurR_none, blurC_region, blurC_regionN, blurC_fregion, blurT_nil, blurT_cons, blurC_seq, blurC_cond, blurC_block, blurC_loop, blurC_skip, blurC_exit, blurC_ret, tellS_nil, tellS_cons, List.set_cons_zero, List.set_cons_succ, tops_zero, tops_succ]
  by_cases h1 : i < t.props.length
  · have ha := prop_at h1
    have hst := map_take_step (fun p : List UInt8 × List UInt8 => p.1) (d := ([], [])) h1
    have hJ2 := fun (G2 : AHeap) (v3 : AV) p1 p2 p3 p4 a' => hJ (G2, v3, i + 1) a' ⟨p1, p2, p3, p4, h1⟩ (by show t.props.length - (i + 1) < t.props.length - i; omega)
    clear hJ
    simp only [hst] at hJ2
    generalize t.props.getD i ([], []) = p at *
    have hlen : ((t.props.take i).map (·.1)).length ≤ 300 := by rw [List.length_map, List.length_take]; omega
    generalize (t.props.take i).map (·.1) = ns at *
    have hwc : (hp G [pcell2 p]).within (hp G [pcell2 p]).next := within_hp2 hw (fun o ho => by rw [List.mem_singleton] at ho; subst ho; exact pcell2_u _ _)
    obtain ⟨v3, G3, hE, hv3, hg3, hw3⟩ := slat_app2 (b := 16) (ys := [strV p.1]) (slat_hp hv [pcell2 p]) (by rw [hp_next]; have := hG.next; omega) (strs_len ns) rfl (by simp only [List.length_map, List.length_cons, List.length_nil]; omega) hwc (fun n => strs_u n ns) (fun n => strs_u n [p.1])
    rw [strV_is, pcell2] at hE
    simp (maxSteps := 4000000) (disch := (first | omega | (simp only [set_next, List.length_append, List.length_cons, List.length_nil, List.length_take, List.length_drop, List.length_map, List.length_set, List.length_replicate]; omega) | (simp only [set_next, ne_eq, reduceCtorEq, not_false_eq_true]))) only [ha, propV_cells, hE, go_sem, Nat.reduceLeDiff, Nat.reduceAdd, Nat.reduceSub, Nat.reduceMul, Nat.reduceLT, Int.reduceLT, Int.reduceLE, Int.reduceAdd, Int.reduceSub, Int.reduceMul, Int.reduceToNat, Int.reduceNeg, Int.reduceEq, Nat.reducePow, Int.reducePow, Nat.reduceEqDiff, decide_true, decide_false, reduceIte, reduceCtorEq, Int.reduceBEq, Int.reduceBNe, bne_self_eq_false, Int.cast_ofNat_Int, Bool.not_true, Bool.not_false, IntKind.bits, w_nat, w_lit, w_add, w_addl, w_ladd, w_sub, w_subl, w_lsub, w_mul, w_mull, w_lmul, t_div, t_divl, t_mod, t_modl, i_lt, i_ltl, i_llt, i_le, i_lel, i_lle, i_eq, i_eql, i_leq, Nat.zero_le, d_beq, d_bne, d_bytes, byte_at, Int.toNat_natCast, toNat_lit, decide_eq_true, decide_eq_false, if_pos, if_neg, slA_len, slA_idx, slA_cells, flat_slA, one_slA, cells_slA, map_mid, strV_is, hp_get1, hp_get2, hp_get3, hp_set1, hp_set2, hp_set3, hp_old, hp_sold, set_got, set_set, set_next, set_other, bytesL, bytes_all, List.length_map, aapp_nils, aapp_wr, List.flatMap_cons, List.flatMap_nil, Nat.mul_one]
    refine hJ2 G3 v3 ⟨Nat.le_trans hG.next (Nat.le_trans (Nat.le_add_right _ _) hg3.next), fun j hj => ?_⟩ hw3 ?_ ?_ _ (by (simp only [blurR_nil, blurR_some, blurR_none, blurC_region, blurC_regionN, blurC_fregion, blurT_nil, blurT_cons, blurC_seq, blurC_cond, blurC_block, blurC_loop, blurC_skip, blurC_exit, blurC_ret, tellS_nil, tellS_cons, List.set_cons_zero, List.set_cons_succ, tops_zero, tops_succ]; repeat first | exact forget_nil | apply forget_keep | apply forget_top))
    · rw [hg3.old j hj, hp_get_old _ _ _ (Nat.lt_of_lt_of_le hj hG.next), hG.get j hj]
    · rw [List.map_append]
      exact hv3
    · exact hg3.other _ _ (by rw [hp_old (G.lt hg0)]; exact hg0) (slat_ne2 (slat_hp hv [pcell2 p]) (by rw [hp_old (G.lt hg0), hg0, trRow_is]) (by decide))
  clear hJ
  rw [List.take_of_length_le (by omega)] at hv
  have hl0 := G.lt hg0
  have hg0' := hg0
  rw [trRow_is] at hg0'
  simp (maxSteps := 4000000) (disch := (first | omega | (simp only [set_next, List.length_append, List.length_cons, List.length_nil, List.length_take, List.length_drop, List.length_map, List.length_set, List.length_replicate]; omega) | (simp only [set_next, ne_eq, reduceCtorEq, not_false_eq_true]))) only [hg0', go_sem, Nat.reduceLeDiff, Nat.reduceAdd, Nat.reduceSub, Nat.reduceMul, Nat.reduceLT, Int.reduceLT, Int.reduceLE, Int.reduceAdd, Int.reduceSub, Int.reduceMul, Int.reduceToNat, Int.reduceNeg, Int.reduceEq, Nat.reducePow, Int.reducePow, Nat.reduceEqDiff, decide_true, decide_false, reduceIte, reduceCtorEq, Int.reduceBEq, Int.reduceBNe, bne_self_eq_false, Int.cast_ofNat_Int, Bool.not_true, Bool.not_false, IntKind.bits, w_nat, w_lit, w_add, w_addl, w_ladd, w_sub, w_subl, w_lsub, w_mul, w_mull, w_lmul, t_div, t_divl, t_mod, t_modl, i_lt, i_ltl, i_llt, i_le, i_lel, i_lle, i_eq, i_eql, i_leq, Nat.zero_le, d_beq, d_bne, d_bytes, byte_at, Int.toNat_natCast, toNat_lit, decide_eq_true, decide_eq_false, if_pos, if_neg, slA_len, slA_idx, slA_cells, flat_slA, one_slA, cells_slA, map_mid, strV_is, hp_get1, hp_get2, hp_get3, hp_set1, hp_set2, hp_set3, hp_old, hp_sold, set_got, set_set, set_next, set_other, bytesL, bytes_all, List.length_map, aapp_nils, aapp_wr, List.flatMap_cons, List.flatMap_nil, Nat.mul_one]
  refine go_loopS mono (σ := AHeap × AV × Nat) (fun z => [(4, z.2.1), (26, .int .i64 (z.2.2 : Int))]) (fun z => hp z.1 []) (fun z => Grew H.next .nils G z.2.1 z.1 ∧ z.1.within z.1.next ∧ SlAt H.next z.1 9 1 z.2.1 (((t.kids.take z.2.2).map Tr.name).map strV) ∧ z.2.2 ≤ t.kids.length) (fun z => t.kids.length - z.2.2) (G, .nils, 0) ?_ rfl ⟨grew_refl, hw, slat_nil, Nat.zero_le _⟩ (fun z hz J hJ => ?_)
  · (simp only [blurR_nil, blurR_some, blurR_none, blurC_region, blurC_regionN, blurC_fregion, blurT_nil, blurT_cons, blurC_seq, blurC_cond, blurC_block, blurC_loop, blurC_skip, blurC_exit, blurC_ret, tellS_nil, tellS_cons, List.set_cons_zero, List.set_cons_succ, tops_zero, tops_succ]; repeat first | exact forget_nil | apply forget_keep | apply forget_top)
  obtain ⟨G2, v2, i2⟩ := z
  obtain ⟨hg2, hw2, hv2, hil2⟩ := hz
  simp only at hg2 hw2 hv2 hil2
  have hGn := hG.next
  have hG2n := hg2.next
  simp only [blurR_nil, blurR_some, blurR_none, blurC_region, blurC_regionN, blurC_fregion, blurT_nil, blurT_cons, blurC_seq, blurC_cond, blurC_block, blurC_loop, blurC_skip, blurC_exit, blurC_ret, tellS_nil, tellS_cons, List.set_cons_zero, List.set_cons_succ, tops_zero, tops_succ]
  by_cases h2 : i2 < t.kids.length
  · have ha := tr_at h2
    have hst := map_take_step Tr.name (d := tr0) h2
    have hJ2 := fun (G3 : AHeap) (v3 : AV) p1 p2 p3 a' => hJ (G3, v3, i2 + 1) a' ⟨p1, p2, p3, h2⟩ (by show t.kids.length - (i2 + 1) < t.kids.length - i2; omega)
    clear hJ
    simp only [hst] at hJ2
    generalize t.kids.getD i2 tr0 = k at *
    have hlen : ((t.kids.take i2).map Tr.name).length ≤ 80 := by rw [List.length_map, List.length_take]; omega
    generalize (t.kids.take i2).map Tr.name = ns at *
    have hwc : (hp G2 [trRow k]).within (hp G2 [trRow k]).next := within_hp2 hw2 (fun o ho => by rw [List.mem_singleton] at ho; subst ho; exact trRow_u _ _)
    obtain ⟨v3, G3, hE, hv3, hg3, hw3⟩ := slat_app2 (b := 16) (ys := [strV k.name]) (slat_hp hv2 [trRow k]) (by rw [hp_next]; omega) (strs_len ns) rfl (by simp only [List.length_map, List.length_cons, List.length_nil]; omega) hwc (fun n => strs_u n ns) (fun n => strs_u n [k.name])
    rw [strV_is, trRow_is] at hE
    have hVc := Tr.V_cells k
    simp (maxSteps := 4000000) (disch := (first | omega | (simp only [set_next, List.length_append, List.length_cons, List.length_nil, List.length_take, List.length_drop, List.length_map, List.length_set, List.length_replicate]; omega) | (simp only [set_next, ne_eq, reduceCtorEq, not_false_eq_true]))) only [ha, hVc, hE, go_sem, Nat.reduceLeDiff, Nat.reduceAdd, Nat.reduceSub, Nat.reduceMul, Nat.reduceLT, Int.reduceLT, Int.reduceLE, Int.reduceAdd, Int.reduceSub, Int.reduceMul, Int.reduceToNat, Int.reduceNeg, Int.reduceEq, Nat.reducePow, Int.reducePow, Nat.reduceEqDiff, decide_true, decide_false, reduceIte, reduceCtorEq, Int.reduceBEq, Int.reduceBNe, bne_self_eq_false, Int.cast_ofNat_Int, Bool.not_true, Bool.not_false, IntKind.bits, w_nat, w_lit, w_add, w_addl, w_ladd, w_sub, w_subl, w_lsub, w_mul, w_mull, w_lmul, t_div, t_divl, t_mod, t_modl, i_lt, i_ltl, i_llt, i_le, i_lel, i_lle, i_eq, i_eql, i_leq, Nat.zero_le, d_beq, d_bne, d_bytes, byte_at, Int.toNat_natCast, toNat_lit, decide_eq_true, decide_eq_false, if_pos, if_neg, slA_len, slA_idx, slA_cells, flat_slA, one_slA, cells_slA, map_mid, strV_is, hp_get1, hp_get2, hp_get3, hp_set1, hp_set2, hp_set3, hp_old, hp_sold, set_got, set_set, set_next, set_other, bytesL, bytes_all, List.length_map, aapp_nils, aapp_wr, List.flatMap_cons, List.flatMap_nil, Nat.mul_one]
    refine hJ2 G3 v3 (grew_trans (grew_hp' hg2 hGn _) hg3) hw3 ?_ _ (by (simp only [blurR_nil, blurR_some, blurR_none, blurC_region, blurC_regionN, blurC_fregion, blurT_nil, blurT_cons, blurC_seq, blurC_cond, blurC_block, blurC_loop, blurC_skip, blurC_exit, blurC_ret, tellS_nil, tellS_cons, List.set_cons_zero, List.set_cons_succ, tops_zero, tops_succ]; repeat first | exact forget_nil | apply forget_keep | apply forget_top))
    rw [List.map_append]
    exact hv3
  clear hJ
  rw [List.take_of_length_le (by omega)] at hv2
  have hvG2 : SlAt H.next G2 9 1 v ((pnames t).map strV) := slat_more hv (fun i o hg => hg2.other i o hg (fun _ _ _ _ e => by cases e))
  obtain ⟨G3, k3, hS3, hn3, ho3, hx3⟩ := slat_shut2 hvG2 (strs_len _)
  have hv2' : SlAt H.next G3 9 1 v2 ((knames t).map strV) := by
    rcases hv2 with q | ⟨id2, gen2, q1, q2, q3⟩
    · exact .inl q
    · refine .inr ⟨id2, gen2, q1, q2, hx3 _ _ q3 (fun gen off len sz e => ?_)⟩
      have hvu := slat_under hv
      rw [e, u_wr] at hvu
      exact hg2.id id2 hvu (fun _ _ _ _ e => by cases e) _ _ _ _ q1
  obtain ⟨G4, k4, hS4, hn4, ho4, hx4⟩ := slat_shut2 hv2' (strs_len _)
  have hP3 : Past H G3 := ⟨by omega, fun j hj => (ho3 j hj).trans ((hg2.old j hj).trans (hG.get j hj))⟩
  have hP4 : Past H G4 := ⟨by omega, fun j hj => (ho4 j hj).trans (hP3.get j hj)⟩
  have hpl : (pnames t).length ≤ 9223372036854775807 := by unfold pnames; rw [List.length_map]; omega
  have hkl : (knames t).length ≤ 9223372036854775807 := by unfold knames; rw [List.length_map]; omega
  simp (maxSteps := 4000000) (disch := (first | omega | (simp only [set_next, List.length_append, List.length_cons, List.length_nil, List.length_take, List.length_drop, List.length_map, List.length_set, List.length_replicate]; omega) | (simp only [set_next, ne_eq, reduceCtorEq, not_false_eq_true]))) only [go_sem, Nat.reduceLeDiff, Nat.reduceAdd, Nat.reduceSub, Nat.reduceMul, Nat.reduceLT, Int.reduceLT, Int.reduceLE, Int.reduceAdd, Int.reduceSub, Int.reduceMul, Int.reduceToNat, Int.reduceNeg, Int.reduceEq, Nat.reducePow, Int.reducePow, Nat.reduceEqDiff, decide_true, decide_false, reduceIte, reduceCtorEq, Int.reduceBEq, Int.reduceBNe, bne_self_eq_false, Int.cast_ofNat_Int, Bool.not_true, Bool.not_false, IntKind.bits, w_nat, w_lit, w_add, w_addl, w_ladd, w_sub, w_subl, w_lsub, w_mul, w_mull, w_lmul, t_div, t_divl, t_mod, t_modl, i_lt, i_ltl, i_llt, i_le, i_lel, i_lle, i_eq, i_eql, i_leq, Nat.zero_le, d_beq, d_bne, d_bytes, byte_at, Int.toNat_natCast, toNat_lit, decide_eq_true, decide_eq_false, if_pos, if_neg, slA_len, slA_idx, slA_cells, flat_slA, one_slA, cells_slA, map_mid, strV_is, hp_get1, hp_get2, hp_get3, hp_set1, hp_set2, hp_set3, hp_old, hp_sold, set_got, set_set, set_next, set_other, bytesL, bytes_all, List.length_map, aapp_nils, aapp_wr, List.flatMap_cons, List.flatMap_nil, Nat.mul_one]
  rw [hp_nil]
  refine acalls_shut (pre := []) hS3 ?_
  refine names_a (q := propOk) hpl (fun s hs H K hk => ?_) ?_
  · obtain ⟨p, hp, rfl⟩ := List.mem_map.1 hs
    exact prop_a (by have := ho.ps p hp; omega) hk
  rw [← hp_nil (H := G3)]
  by_cases h3 : nmErr propOk (pnames t) = 0
  · rw [if_pos h3] at h
    simp (maxSteps := 4000000) (disch := (first | omega | (simp only [set_next, List.length_append, List.length_cons, List.length_nil, List.length_take, List.length_drop, List.length_map, List.length_set, List.length_replicate]; omega) | (simp only [set_next, ne_eq, reduceCtorEq, not_false_eq_true]))) only [go_sem, Nat.reduceLeDiff, Nat.reduceAdd, Nat.reduceSub, Nat.reduceMul, Nat.reduceLT, Int.reduceLT, Int.reduceLE, Int.reduceAdd, Int.reduceSub, Int.reduceMul, Int.reduceToNat, Int.reduceNeg, Int.reduceEq, Nat.reducePow, Int.reducePow, Nat.reduceEqDiff, decide_true, decide_false, reduceIte, reduceCtorEq, Int.reduceBEq, Int.reduceBNe, bne_self_eq_false, Int.cast_ofNat_Int, Bool.not_true, Bool.not_false, IntKind.bits, w_nat, w_lit, w_add, w_addl, w_ladd, w_sub, w_subl, w_lsub, w_mul, w_mull, w_lmul, t_div, t_divl, t_mod, t_modl, i_lt, i_ltl, i_llt, i_le, i_lel, i_lle, i_eq, i_eql, i_leq, Nat.zero_le, d_beq, d_bne, d_bytes, byte_at, Int.toNat_natCast, toNat_lit, decide_eq_true, decide_eq_false, if_pos, if_neg, slA_len, slA_idx, slA_cells, flat_slA, one_slA, cells_slA, map_mid, strV_is, hp_get1, hp_get2, hp_get3, hp_set1, hp_set2, hp_set3, hp_old, hp_sold, set_got, set_set, set_next, set_other, bytesL, bytes_all, List.length_map, aapp_nils, aapp_wr, List.flatMap_cons, List.flatMap_nil, Nat.mul_one]
    rw [hp_nil]
    refine acalls_shut (pre := []) hS4 ?_
    refine names_a (q := nodeOk) hkl (fun s hs H K hk => ?_) ?_
    · obtain ⟨k, hk2, rfl⟩ := List.mem_map.1 hs
      exact node_a (by have := ho.ks k hk2; omega) hk
    rw [← hp_nil (H := G4)]
    simp (maxSteps := 4000000) (disch := (first | omega | (simp only [set_next, List.length_append, List.length_cons, List.length_nil, List.length_take, List.length_drop, List.length_map, List.length_set, List.length_replicate]; omega) | (simp only [set_next, ne_eq, reduceCtorEq, not_false_eq_true]))) only [go_sem, Nat.reduceLeDiff, Nat.reduceAdd, Nat.reduceSub, Nat.reduceMul, Nat.reduceLT, Int.reduceLT, Int.reduceLE, Int.reduceAdd, Int.reduceSub, Int.reduceMul, Int.reduceToNat, Int.reduceNeg, Int.reduceEq, Nat.reducePow, Int.reducePow, Nat.reduceEqDiff, decide_true, decide_false, reduceIte, reduceCtorEq, Int.reduceBEq, Int.reduceBNe, bne_self_eq_false, Int.cast_ofNat_Int, Bool.not_true, Bool.not_false, IntKind.bits, w_nat, w_lit, w_add, w_addl, w_ladd, w_sub, w_subl, w_lsub, w_mul, w_mull, w_lmul, t_div, t_divl, t_mod, t_modl, i_lt, i_ltl, i_llt, i_le, i_lel, i_lle, i_eq, i_eql, i_leq, Nat.zero_le, d_beq, d_bne, d_bytes, byte_at, Int.toNat_natCast, toNat_lit, decide_eq_true, decide_eq_false, if_pos, if_neg, slA_len, slA_idx, slA_cells, flat_slA, one_slA, cells_slA, map_mid, strV_is, hp_get1, hp_get2, hp_get3, hp_set1, hp_set2, hp_set3, hp_old, hp_sold, set_got, set_set, set_next, set_other, bytesL, bytes_all, List.length_map, aapp_nils, aapp_wr, List.flatMap_cons, List.flatMap_nil, Nat.mul_one]
    exact aret_past (past_hp hP4 []) hs (.int _ _) h
  · rw [if_neg h3] at h
    simp (maxSteps := 4000000) (disch := (first | omega | (simp only [set_next, List.length_append, List.length_cons, List.length_nil, List.length_take, List.length_drop, List.length_map, List.length_set, List.length_replicate]; omega) | (simp only [set_next, ne_eq, reduceCtorEq, not_false_eq_true]))) only [go_sem, Nat.reduceLeDiff, Nat.reduceAdd, Nat.reduceSub, Nat.reduceMul, Nat.reduceLT, Int.reduceLT, Int.reduceLE, Int.reduceAdd, Int.reduceSub, Int.reduceMul, Int.reduceToNat, Int.reduceNeg, Int.reduceEq, Nat.reducePow, Int.reducePow, Nat.reduceEqDiff, decide_true, decide_false, reduceIte, reduceCtorEq, Int.reduceBEq, Int.reduceBNe, bne_self_eq_false, Int.cast_ofNat_Int, Bool.not_true, Bool.not_false, IntKind.bits, w_nat, w_lit, w_add, w_addl, w_ladd, w_sub, w_subl, w_lsub, w_mul, w_mull, w_lmul, t_div, t_divl, t_mod, t_modl, i_lt, i_ltl, i_llt, i_le, i_lel, i_lle, i_eq, i_eql, i_leq, Nat.zero_le, d_beq, d_bne, d_bytes, byte_at, Int.toNat_natCast, toNat_lit, decide_eq_true, decide_eq_false, if_pos, if_neg, slA_len, slA_idx, slA_cells, flat_slA, one_slA, cells_slA, map_mid, strV_is, hp_get1, hp_get2, hp_get3, hp_set1, hp_set2, hp_set3, hp_old, hp_sold, set_got, set_set, set_next, set_other, bytesL, bytes_all, List.length_map, aapp_nils, aapp_wr, List.flatMap_cons, List.flatMap_nil, Nat.mul_one]
    exact aret_past (past_hp hP3 []) hs (.int _ _) h
end Go.Proofs.Ytblflecalomgfaa.AL

