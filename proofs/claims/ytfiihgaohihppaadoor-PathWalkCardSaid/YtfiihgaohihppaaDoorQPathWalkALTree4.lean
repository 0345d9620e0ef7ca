/- Trees told: walking through them. -/
import Derived.Test.YtfiihgaohihppaaDoorQPathWalkALTree3
set_option linter.unusedSimpArgs false
set_option linter.unusedVariables false
set_option maxRecDepth 100000
set_option maxHeartbeats 16000000
namespace Go.Proofs.YtfiihgaohihppaaDoor.AL
open Go Go.Proofs
attribute [local go_sem] go_seq go_skip go_region go_regionN go_fregion rgF_some go_cond go_block go_exit go_ret nxt_nil nxt_code nxt_blk nxt_cut leave_nil leave_code leave_cut leave_blk rtn_nil rtn_code rtn_blk rtn_cut cnd_t cnd_f rgn_nil rgY_some rgY_none rgH_some rgP_some retTo_is rgV_func grd_und grd_tt grd_ff grd_tf grd_ft rgn_q rgn_alloc rgn_box rgn_store rgn_lit rgn_litw litCells_nil litCells_cons rgn_app rgn_copy rgn_mk rgn_s2b rgn_call rgn_callv rgn_stop rgn_slice3 aslice3 rgn_put rgn_mkmap rgn_lookup rgn_mapup alookup_nilm alookup_map amapup_map afound_ok afound_no rgn_c rgn_cv qclV_func aloadr rgn_guard post_ret post_normal retY_some ares aresL ares1 AX.ev aput List.getD_cons_zero List.getD_cons_succ List.set_cons_zero List.set_cons_succ List.map_cons List.map_nil aq abin aint astr abeq aconv asame aextract alenS alenL_nils alenL_emp alenL_imm alenL_wr aun apart aload afieldAddr afield aidxSl_wr aidxSl_imm aidxPt aidxStr aidxArr abound asliceStr asliceSl asliceArr abest anonil afill astore acells_nils acells_emp acells_imm acells_wr acells_str acopy litAll amk as2b anil nilOf aseq aeqs aeqv fits fit1 hp_next hp_push hp_get hp_set List.length_cons List.length_nil List.getElem?_cons_zero List.getElem?_cons_succ List.cons_append List.nil_append List.append_nil List.take_succ_cons List.take_zero List.drop_succ_cons List.drop_zero List.all_cons List.all_nil Option.map_some Option.some.injEq Bool.and_true Bool.true_and Bool.false_eq_true if_true if_false ite_true ite_false Bool.and_self true_and and_true and_self Nat.zero_add Nat.le_refl Int.toNat_natCast beq_self_eq_true eq_self tops_zero tops_succ Int.natCast_nonneg List.take_nil List.drop_nil Option.map_none flat_bool one_bool cells_bool flat_int one_int cells_int flat_str one_str cells_str flat_nilp one_nilp cells_nilp flat_ptr one_ptr cells_ptr flat_nils one_nils cells_nils flat_imm one_imm cells_imm flat_wr one_wr cells_wr flat_func one_func cells_func flat_nilf one_nilf cells_nilf flat_map one_map cells_map flat_nilm one_nilm cells_nilm flat_iface one_iface cells_iface flat_nili one_nili cells_nili flat_rd one_rd cells_rd flat_emp one_emp cells_emp flat_byteV one_byteV cells_byteV flat_agg cells_agg one_agg B_size B_list B_ext B_toList B_app List.take_length Int.le_refl
theorem low_kids {m : Nat} {t : Tr} (h : tlow (m + 1) t = true) : t.name.length ≤ 100 ∧ ∀ k ∈ t.kids, tlow m k = true := by
  rw [tlow] at h
  simp only [Bool.and_eq_true, decide_eq_true_eq, List.all_eq_true] at h
  exact ⟨h.1.1.1.1, h.2⟩
theorem low_name : ∀ {m : Nat} {t : Tr}, tlow m t = true → t.name.length ≤ 100
  | 0, t, h => by rw [tlow] at h; cases h
  | m + 1, t, h => (low_kids h).1
theorem flat_step {α β : Type} (f : α → List β) {l : List α} {i : Nat} {d : α} (h : i < l.length) : (l.take (i + 1)).flatMap f = (l.take i).flatMap f ++ f (l.getD i d) := by
  rw [List.take_add_one, List.getElem?_eq_getElem h, List.flatMap_append, List.getD_eq_getElem?_getD, List.getElem?_eq_getElem h]
  simp
theorem flat_take_le {α β : Type} (f : α → List β) (l : List α) (i : Nat) : ((l.take i).flatMap f).length ≤ (l.flatMap f).length := by
  conv => rhs; rw [← List.take_append_drop i l, List.flatMap_append, List.length_append]
  omega
def tWalk (t : Tr) : List (List UInt8 × Tr) := twalk 8 [47] t
theorem tWalk_len {t : Tr} (h : tLow t = true) : (tWalk t).length ≤ 400 := by
  unfold tLow at h
  rw [Bool.and_eq_true, decide_eq_true_eq] at h
  have := twalk_len 8 12 [47] t (by omega) h.2
  unfold tWalk
  omega
/-- As the document walks. -/
theorem rwalk_a : ∀ (l m : Nat) (t : Tr) (p : List UInt8) (H : AHeap) (K : AV → AHeap → Prop), l ≤ m → m ≤ 100 → TrOk t → tlow m t = true → p ≠ [] → p.length + 102 * l ≤ 100000 → (twalk l p t).length ≤ 1000 →
    (∀ k, K (slA k 4 ((twalk l p t).map spV)) H) → (ACalls Tryd.prog) 67 [.str (B p), t.V, .int .i64 (l : Int)] H K
  | 0, m, t, p, H, K, hlm, hm, ho, hw, hpn, hp0, hb, h => by
    refine acalls_go mo t67 (fun hs hu => ?_)
    rw [twalk] at h
    have := h 0
    simp only [c67, Tr.V_is, Int.ofNat_zero, Int.natCast_zero, go_sem, Nat.reduceLeDiff, Nat.reduceAdd, Nat.reduceSub, Nat.reduceMul, Nat.reduceLT, Int.reduceLT, Int.reduceLE, Int.reduceAdd, Int.reduceSub, Int.reduceMul, Int.reduceToNat, Int.reduceNeg, Int.reduceEq, Nat.reducePow, Int.reducePow, Nat.reduceEqDiff, decide_true, decide_false, reduceIte, reduceCtorEq, Int.reduceBEq, Int.reduceBNe, bne_self_eq_false, Int.cast_ofNat_Int, Bool.not_true, Bool.not_false, IntKind.bits]
    exact aret_plain hs .nils this
  | l + 1, 0, t, p, H, K, hlm, hm, ho, hw, hpn, hp0, hb, h => by omega
  | l + 1, m + 1, t, p, H, K, hlm, hm, ho, hw, hpn, hp0, hb, h => by
    refine acalls_go mo t67 (fun hs hu => ?_)
    have ih := rwalk_a l m
    obtain ⟨hnm, hlow⟩ := low_kids hw
    rw [twalk] at h hb
    rw [List.length_cons] at hb
    have hkl := ho.k
    have hpl : 0 < p.length := List.length_pos_iff.2 hpn
    have hlast := byte_at (l := p) (i := p.length - 1) (by omega)
    have hd : p.drop (p.length - 1) = [p.getD (p.length - 1) 0] := by
      rw [List.drop_eq_getElem_cons (by omega), List.drop_of_length_le (by omega), List.getD_eq_getElem?_getD, List.getElem?_eq_getElem (by omega)]
      rfl
    have hcell : [AV.str (B p), .str (B t.name), slA t.kp 2 (t.props.map propV), slA t.kk 3 (t.kids.map Tr.V)] = ([(p, t)].map spV).flatMap AV.cells := by
      rw [List.map_cons, List.map_nil, List.flatMap_cons, List.flatMap_nil, List.append_nil, spV_cells]
    simp only [c67, Tr.V_is, go_sem, Nat.reduceLeDiff, Nat.reduceAdd, Nat.reduceSub, Nat.reduceMul, Nat.reduceLT, Int.reduceLT, Int.reduceLE, Int.reduceAdd, Int.reduceSub, Int.reduceMul, Int.reduceToNat, Int.reduceNeg, Int.reduceEq, Nat.reducePow, Int.reducePow, Nat.reduceEqDiff, decide_true, decide_false, reduceIte, reduceCtorEq, Int.reduceBEq, Int.reduceBNe, bne_self_eq_false, Int.cast_ofNat_Int, Bool.not_true, Bool.not_false, IntKind.bits]
    simp (maxSteps := 4000000) (disch := (first | omega | (simp only [set_next, List.length_append, List.length_cons, List.length_nil, List.length_take, List.length_drop, List.length_map, List.length_set, List.length_replicate]; omega) | (simp only [set_next, ne_eq, reduceCtorEq, not_false_eq_true]))) only [go_sem, Nat.reduceLeDiff, Nat.reduceAdd, Nat.reduceSub, Nat.reduceMul, Nat.reduceLT, Int.reduceLT, Int.reduceLE, Int.reduceAdd, Int.reduceSub, Int.reduceMul, Int.reduceToNat, Int.reduceNeg, Int.reduceEq, Nat.reducePow, Int.reducePow, Nat.reduceEqDiff, decide_true, decide_false, reduceIte, reduceCtorEq, Int.reduceBEq, Int.reduceBNe, bne_self_eq_false, Int.cast_ofNat_Int, Bool.not_true, Bool.not_false, IntKind.bits, w_nat, w_lit, w_add, w_addl, w_ladd, w_sub, w_subl, w_lsub, w_mul, w_mull, w_lmul, t_div, t_divl, t_mod, t_modl, i_lt, i_ltl, i_llt, i_le, i_lel, i_lle, i_eq, i_eql, i_leq, Nat.zero_le, d_beq, d_bne, d_bytes, byte_at, Int.toNat_natCast, toNat_lit, decide_eq_true, decide_eq_false, if_pos, if_neg, slA_len, slA_idx, slA_cells, flat_slA, one_slA, cells_slA, map_mid, strV_is, hp_get1, hp_get2, hp_get3, hp_set1, hp_set2, hp_set3, hp_old, hp_sold, set_got, set_set, set_next, set_other, bytesL, bytes_all, List.length_map, aapp_nils, aapp_wr, List.flatMap_cons, List.flatMap_nil, Nat.mul_one]
    have hrow : AObj.row 48 0 [AV.str (B p), .str (B t.name), slA t.kp 2 (t.props.map propV), slA t.kk 3 (t.kids.map Tr.V)] = .row 48 0 (([(p, t)].map spV).flatMap AV.cells) := by rw [hcell]
    rw [hrow, ← hp_nil (H := hp H _)]
    have hv0 : SlAt H.next (hp H [trRow t, .row 48 0 (([(p, t)].map spV).flatMap AV.cells)]) 48 4 (.wr (H.next + 1) 0 0 1 4) ([(p, t)].map spV) := .inr ⟨H.next + 1, 0, rfl, by omega, hp_get _ _ 1⟩
    refine go_loopS mono (σ := AHeap × AV × Nat) (fun z => [(7, z.2.1), (8, .int .i64 (z.2.2 : Int))]) (fun z => hp z.1 []) (fun z => SlAt H.next z.1 48 4 z.2.1 (((p, t) :: (t.kids.take z.2.2).flatMap (fun k => twalk l (joinP p k.name) k)).map spV) ∧ Past H z.1 ∧ z.1.get (H.next + 0) = some (trRow t) ∧ z.2.2 ≤ t.kids.length) (fun z => t.kids.length - z.2.2) (hp H [trRow t, .row 48 0 (([(p, t)].map spV).flatMap AV.cells)], .wr (H.next + 1) 0 0 1 4, 0) ?_ rfl ⟨by rw [List.take_zero, List.flatMap_nil]; exact hv0, past_hp past_refl _, hp_get _ _ 0, Nat.zero_le _⟩ (fun z hz J hJ => ?_)
    · (simp only [blurR_nil, blurR_some, blurR_none, blurC_region, blurC_regionN, blurC_fregion, blurT_nil, blurT_cons, blurC_seq, blurC_cond, blurC_block, blurC_loop, blurC_skip, blurC_exit, blurC_ret, tellS_nil, tellS_cons, List.set_cons_zero, List.set_cons_succ, tops_zero, tops_succ]; repeat first | exact forget_nil | apply forget_keep | apply forget_top)
    obtain ⟨G, v2, i⟩ := z
    obtain ⟨hv2, hG, hg0, hil⟩ := hz
    simp only at hv2 hG hg0 hil
    have hl0 := G.lt hg0
    have hg0' := hg0
    rw [trRow_is] at hg0'
    simp only [blurR_nil, blurR_some, blurR_none, blurC_region, blurC_regionN, blurC_fregion, blurT_nil, blurT_cons, blurC_seq, blurC_cond, blurC_block, blurC_loop, blurC_skip, blurC_exit, blurC_ret, tellS_nil, tellS_cons, List.set_cons_zero, List.set_cons_succ, tops_zero, tops_succ]
    by_cases h1 : i < t.kids.length
    · have ha := tr_at h1
      have hok := ho.ks _ (tr_mem h1)
      have hlk := hlow _ (tr_mem h1)
      have hst := flat_step (fun k => twalk l (joinP p k.name) k) (d := tr0) h1
      have hle := flat_take_le (fun k => twalk l (joinP p k.name) k) t.kids (i + 1)
      have hJ2 := fun (G2 : AHeap) (v3 : AV) p1 p2 p3 a' => hJ (G2, v3, i + 1) a' ⟨p1, p2, p3, h1⟩ (by show t.kids.length - (i + 1) < t.kids.length - i; omega)
      clear hJ
      simp only [hst] at hJ2
      rw [hst, List.length_append] at hle
      generalize t.kids.getD i tr0 = k at *
      generalize (t.kids.take i).flatMap (fun k => twalk l (joinP p k.name) k) = ys at *
      have hkn := low_name hlk
      have hVc := Tr.V_cells k
      have hVi := Tr.V_is k
      have hsz1 : p.length + 1 ≤ 9223372036854775807 := by omega
      have htr := trimS_le p
      have hjl : (joinP p k.name).length ≤ p.length + 101 := by unfold joinP; rw [List.length_append, List.length_append, List.length_singleton]; omega
      have hjn : joinP p k.name ≠ [] := by unfold joinP; simp
      have hcall := fun (K2 : AV → AHeap → Prop) => ih k (joinP p k.name) (hp G []) K2 (by omega) (by omega) hok hlk hjn (by omega) (by omega)
      have happ : ∀ kk : Nat, ∃ v3 G3, aapp 48 4 80 (hp G []) v2 (slA kk 4 ((twalk l (joinP p k.name) k).map spV)) = some (v3, hp G3 []) ∧ SlAt H.next G3 48 4 v3 (((p, t) :: ys).map spV ++ (twalk l (joinP p k.name) k).map spV) ∧ Beside H.next v2 (hp G []) G3 := fun kk => by
        have h1 : ((((twalk l (joinP p k.name) k).map spV)).flatMap AV.cells).all AV.one = true := by
          rw [List.all_eq_true]
          intro x hx
          obtain ⟨y, hy, hx⟩ := List.mem_flatMap.1 hx
          obtain ⟨s, _, rfl⟩ := List.mem_map.1 hy
          have := sp_one s
          rw [List.map_cons, List.map_nil, List.flatMap_cons, List.flatMap_nil, List.append_nil, List.all_eq_true] at this
          exact this x hx
        obtain ⟨v3, G3, q1, q2, q3⟩ := slat_app (b := 80) (ys := (twalk l (joinP p k.name) k).map spV) (slat_hp hv2 []) (by rw [hp_nil]; exact hG.next) (sp_len _) h1 (by
          simp only [List.length_map, List.length_cons]
          omega)
        refine ⟨v3, G3, ?_, q2, q3⟩
        rw [← q1]
        unfold aapp
        rw [slA_cells, acells_imm, if_pos rfl]
      by_cases h47 : p.getD (p.length - 1) 0 = 47
      · have h47n : ((p.getD (p.length - 1) 0).toNat : Int) = 47 := by rw [h47]; rfl
        have hj : p ++ k.name = joinP p k.name := by unfold joinP; rw [trimmed p ⟨by omega, by rw [hd, h47]⟩]
        have hsz2 : p.length + k.name.length ≤ 9223372036854775807 := by omega
        simp (maxSteps := 4000000) (disch := (first | omega | (simp only [set_next, List.length_append, List.length_cons, List.length_nil, List.length_take, List.length_drop, List.length_map, List.length_set, List.length_replicate]; omega) | (simp only [set_next, ne_eq, reduceCtorEq, not_false_eq_true]))) only [ha, hVc, hg0', hlast, h47n, hj, go_sem, Nat.reduceLeDiff, Nat.reduceAdd, Nat.reduceSub, Nat.reduceMul, Nat.reduceLT, Int.reduceLT, Int.reduceLE, Int.reduceAdd, Int.reduceSub, Int.reduceMul, Int.reduceToNat, Int.reduceNeg, Int.reduceEq, Nat.reducePow, Int.reducePow, Nat.reduceEqDiff, decide_true, decide_false, reduceIte, reduceCtorEq, Int.reduceBEq, Int.reduceBNe, bne_self_eq_false, Int.cast_ofNat_Int, Bool.not_true, Bool.not_false, IntKind.bits, w_nat, w_lit, w_add, w_addl, w_ladd, w_sub, w_subl, w_lsub, w_mul, w_mull, w_lmul, t_div, t_divl, t_mod, t_modl, i_lt, i_ltl, i_llt, i_le, i_lel, i_lle, i_eq, i_eql, i_leq, Nat.zero_le, d_beq, d_bne, d_bytes, byte_at, Int.toNat_natCast, toNat_lit, decide_eq_true, decide_eq_false, if_pos, if_neg, slA_len, slA_idx, slA_cells, flat_slA, one_slA, cells_slA, map_mid, strV_is, hp_get1, hp_get2, hp_get3, hp_set1, hp_set2, hp_set3, hp_old, hp_sold, set_got, set_set, set_next, set_other, bytesL, bytes_all, List.length_map, aapp_nils, aapp_wr, List.flatMap_cons, List.flatMap_nil, Nat.mul_one]
        rw [← hVi]
        refine hcall _ (fun kk => ?_)
        obtain ⟨v3, G3, q1, q2, q3⟩ := happ kk
        simp (maxSteps := 4000000) (disch := (first | omega | (simp only [set_next, List.length_append, List.length_cons, List.length_nil, List.length_take, List.length_drop, List.length_map, List.length_set, List.length_replicate]; omega) | (simp only [set_next, ne_eq, reduceCtorEq, not_false_eq_true]))) only [q1, go_sem, Nat.reduceLeDiff, Nat.reduceAdd, Nat.reduceSub, Nat.reduceMul, Nat.reduceLT, Int.reduceLT, Int.reduceLE, Int.reduceAdd, Int.reduceSub, Int.reduceMul, Int.reduceToNat, Int.reduceNeg, Int.reduceEq, Nat.reducePow, Int.reducePow, Nat.reduceEqDiff, decide_true, decide_false, reduceIte, reduceCtorEq, Int.reduceBEq, Int.reduceBNe, bne_self_eq_false, Int.cast_ofNat_Int, Bool.not_true, Bool.not_false, IntKind.bits, w_nat, w_lit, w_add, w_addl, w_ladd, w_sub, w_subl, w_lsub, w_mul, w_mull, w_lmul, t_div, t_divl, t_mod, t_modl, i_lt, i_ltl, i_llt, i_le, i_lel, i_lle, i_eq, i_eql, i_leq, Nat.zero_le, d_beq, d_bne, d_bytes, byte_at, Int.toNat_natCast, toNat_lit, decide_eq_true, decide_eq_false, if_pos, if_neg, slA_len, slA_idx, slA_cells, flat_slA, one_slA, cells_slA, map_mid, strV_is, hp_get1, hp_get2, hp_get3, hp_set1, hp_set2, hp_set3, hp_old, hp_sold, set_got, set_set, set_next, set_other, bytesL, bytes_all, List.length_map, aapp_nils, aapp_wr, List.flatMap_cons, List.flatMap_nil, Nat.mul_one]
        refine hJ2 G3 v3 ?_ (beside_past q3 (Nat.le_refl _) (past_hp hG [])) ?_ _ (by (simp only [blurR_nil, blurR_some, blurR_none, blurC_region, blurC_regionN, blurC_fregion, blurT_nil, blurT_cons, blurC_seq, blurC_cond, blurC_block, blurC_loop, blurC_skip, blurC_exit, blurC_ret, tellS_nil, tellS_cons, List.set_cons_zero, List.set_cons_succ, tops_zero, tops_succ]; repeat first | exact forget_nil | apply forget_keep | apply forget_top))
        · rw [← List.map_append] at q2
          rw [show (p, t) :: (ys ++ twalk l (joinP p k.name) k) = ((p, t) :: ys) ++ twalk l (joinP p k.name) k from rfl]
          exact q2
        · exact q3.other _ _ (by rw [hp_nil]; exact hg0) (slat_ne2 hv2 hg0' (by decide))
      · have h47n : ¬ (p.getD (p.length - 1) 0).toNat = 47 := fun e => h47 (UInt8.toNat_inj.1 e)
        have hts : trimS p = p := by unfold trimS; rw [if_neg (fun q => h47 (by have := q.2; rw [hd] at this; simpa using this))]
        have hj : p ++ [47] ++ k.name = joinP p k.name := by unfold joinP; rw [hts]
        have hsz2 : (p ++ [47]).length + k.name.length ≤ 9223372036854775807 := by rw [List.length_append, List.length_singleton]; omega
        simp (maxSteps := 4000000) (disch := (first | omega | (simp only [set_next, List.length_append, List.length_cons, List.length_nil, List.length_take, List.length_drop, List.length_map, List.length_set, List.length_replicate]; omega) | (simp only [set_next, ne_eq, reduceCtorEq, not_false_eq_true]))) only [ha, hVc, hg0', hlast, hj, hsz1, hsz2, go_sem, Nat.reduceLeDiff, Nat.reduceAdd, Nat.reduceSub, Nat.reduceMul, Nat.reduceLT, Int.reduceLT, Int.reduceLE, Int.reduceAdd, Int.reduceSub, Int.reduceMul, Int.reduceToNat, Int.reduceNeg, Int.reduceEq, Nat.reducePow, Int.reducePow, Nat.reduceEqDiff, decide_true, decide_false, reduceIte, reduceCtorEq, Int.reduceBEq, Int.reduceBNe, bne_self_eq_false, Int.cast_ofNat_Int, Bool.not_true, Bool.not_false, IntKind.bits, w_nat, w_lit, w_add, w_addl, w_ladd, w_sub, w_subl, w_lsub, w_mul, w_mull, w_lmul, t_div, t_divl, t_mod, t_modl, i_lt, i_ltl, i_llt, i_le, i_lel, i_lle, i_eq, i_eql, i_leq, Nat.zero_le, d_beq, d_bne, d_bytes, byte_at, Int.toNat_natCast, toNat_lit, decide_eq_true, decide_eq_false, if_pos, if_neg, slA_len, slA_idx, slA_cells, flat_slA, one_slA, cells_slA, map_mid, strV_is, hp_get1, hp_get2, hp_get3, hp_set1, hp_set2, hp_set3, hp_old, hp_sold, set_got, set_set, set_next, set_other, bytesL, bytes_all, List.length_map, aapp_nils, aapp_wr, List.flatMap_cons, List.flatMap_nil, Nat.mul_one]
        rw [← hVi]
        refine hcall _ (fun kk => ?_)
        obtain ⟨v3, G3, q1, q2, q3⟩ := happ kk
        simp (maxSteps := 4000000) (disch := (first | omega | (simp only [set_next, List.length_append, List.length_cons, List.length_nil, List.length_take, List.length_drop, List.length_map, List.length_set, List.length_replicate]; omega) | (simp only [set_next, ne_eq, reduceCtorEq, not_false_eq_true]))) only [q1, go_sem, Nat.reduceLeDiff, Nat.reduceAdd, Nat.reduceSub, Nat.reduceMul, Nat.reduceLT, Int.reduceLT, Int.reduceLE, Int.reduceAdd, Int.reduceSub, Int.reduceMul, Int.reduceToNat, Int.reduceNeg, Int.reduceEq, Nat.reducePow, Int.reducePow, Nat.reduceEqDiff, decide_true, decide_false, reduceIte, reduceCtorEq, Int.reduceBEq, Int.reduceBNe, bne_self_eq_false, Int.cast_ofNat_Int, Bool.not_true, Bool.not_false, IntKind.bits, w_nat, w_lit, w_add, w_addl, w_ladd, w_sub, w_subl, w_lsub, w_mul, w_mull, w_lmul, t_div, t_divl, t_mod, t_modl, i_lt, i_ltl, i_llt, i_le, i_lel, i_lle, i_eq, i_eql, i_leq, Nat.zero_le, d_beq, d_bne, d_bytes, byte_at, Int.toNat_natCast, toNat_lit, decide_eq_true, decide_eq_false, if_pos, if_neg, slA_len, slA_idx, slA_cells, flat_slA, one_slA, cells_slA, map_mid, strV_is, hp_get1, hp_get2, hp_get3, hp_set1, hp_set2, hp_set3, hp_old, hp_sold, set_got, set_set, set_next, set_other, bytesL, bytes_all, List.length_map, aapp_nils, aapp_wr, List.flatMap_cons, List.flatMap_nil, Nat.mul_one]
        refine hJ2 G3 v3 ?_ (beside_past q3 (Nat.le_refl _) (past_hp hG [])) ?_ _ (by (simp only [blurR_nil, blurR_some, blurR_none, blurC_region, blurC_regionN, blurC_fregion, blurT_nil, blurT_cons, blurC_seq, blurC_cond, blurC_block, blurC_loop, blurC_skip, blurC_exit, blurC_ret, tellS_nil, tellS_cons, List.set_cons_zero, List.set_cons_succ, tops_zero, tops_succ]; repeat first | exact forget_nil | apply forget_keep | apply forget_top))
        · rw [← List.map_append] at q2
          rw [show (p, t) :: (ys ++ twalk l (joinP p k.name) k) = ((p, t) :: ys) ++ twalk l (joinP p k.name) k from rfl]
          exact q2
        · exact q3.other _ _ (by rw [hp_nil]; exact hg0) (slat_ne2 hv2 hg0' (by decide))
    · rw [List.take_of_length_le (by omega)] at hv2
      simp (maxSteps := 4000000) (disch := (first | omega | (simp only [set_next, List.length_append, List.length_cons, List.length_nil, List.length_take, List.length_drop, List.length_map, List.length_set, List.length_replicate]; omega) | (simp only [set_next, ne_eq, reduceCtorEq, not_false_eq_true]))) only [hg0', go_sem, Nat.reduceLeDiff, Nat.reduceAdd, Nat.reduceSub, Nat.reduceMul, Nat.reduceLT, Int.reduceLT, Int.reduceLE, Int.reduceAdd, Int.reduceSub, Int.reduceMul, Int.reduceToNat, Int.reduceNeg, Int.reduceEq, Nat.reducePow, Int.reducePow, Nat.reduceEqDiff, decide_true, decide_false, reduceIte, reduceCtorEq, Int.reduceBEq, Int.reduceBNe, bne_self_eq_false, Int.cast_ofNat_Int, Bool.not_true, Bool.not_false, IntKind.bits, w_nat, w_lit, w_add, w_addl, w_ladd, w_sub, w_subl, w_lsub, w_mul, w_mull, w_lmul, t_div, t_divl, t_mod, t_modl, i_lt, i_ltl, i_llt, i_le, i_lel, i_lle, i_eq, i_eql, i_leq, Nat.zero_le, d_beq, d_bne, d_bytes, byte_at, Int.toNat_natCast, toNat_lit, decide_eq_true, decide_eq_false, if_pos, if_neg, slA_len, slA_idx, slA_cells, flat_slA, one_slA, cells_slA, map_mid, strV_is, hp_get1, hp_get2, hp_get3, hp_set1, hp_set2, hp_set3, hp_old, hp_sold, set_got, set_set, set_next, set_other, bytesL, bytes_all, List.length_map, aapp_nils, aapp_wr, List.flatMap_cons, List.flatMap_nil, Nat.mul_one]
      exact slat_ret (slat_hp hv2 []) (sp_len _) (past_hp hG []) hs (sp_u _ _) h
theorem rWalk_a {t : Tr} (ho : TrOk t) (hw : tLow t = true) {H : AHeap} {K : AV → AHeap → Prop} (h : ∀ k, K (slA k 4 ((tWalk t).map spV)) H) : (ACalls Tryd.prog) 29 [t.V] H K := by
  refine acalls_go mo t29 (fun hs hu => ?_)
  have hVi := Tr.V_is t
  have hlen := tWalk_len hw
  unfold tWalk at hlen h
  have hl12 : tlow 12 t = true := by unfold tLow at hw; rw [Bool.and_eq_true] at hw; exact hw.1
  simp only [c29, Tr.V_is, go_sem, Nat.reduceLeDiff, Nat.reduceAdd, Nat.reduceSub, Nat.reduceMul, Nat.reduceLT, Int.reduceLT, Int.reduceLE, Int.reduceAdd, Int.reduceSub, Int.reduceMul, Int.reduceToNat, Int.reduceNeg, Int.reduceEq, Nat.reducePow, Int.reducePow, Nat.reduceEqDiff, decide_true, decide_false, reduceIte, reduceCtorEq, Int.reduceBEq, Int.reduceBNe, bne_self_eq_false, Int.cast_ofNat_Int, Bool.not_true, Bool.not_false, IntKind.bits]
  rw [← hVi]
  refine rwalk_a 8 12 t [47] _ _ (by omega) (by omega) ho hl12 (by simp) (by simp) (by omega) (fun k => ?_)
  have := h k
  simp (maxSteps := 4000000) (disch := (first | omega | (simp only [set_next, List.length_append, List.length_cons, List.length_nil, List.length_take, List.length_drop, List.length_map, List.length_set, List.length_replicate]; omega) | (simp only [set_next, ne_eq, reduceCtorEq, not_false_eq_true]))) only [go_sem, Nat.reduceLeDiff, Nat.reduceAdd, Nat.reduceSub, Nat.reduceMul, Nat.reduceLT, Int.reduceLT, Int.reduceLE, Int.reduceAdd, Int.reduceSub, Int.reduceMul, Int.reduceToNat, Int.reduceNeg, Int.reduceEq, Nat.reducePow, Int.reducePow, Nat.reduceEqDiff, decide_true, decide_false, reduceIte, reduceCtorEq, Int.reduceBEq, Int.reduceBNe, bne_self_eq_false, Int.cast_ofNat_Int, Bool.not_true, Bool.not_false, IntKind.bits, w_nat, w_lit, w_add, w_addl, w_ladd, w_sub, w_subl, w_lsub, w_mul, w_mull, w_lmul, t_div, t_divl, t_mod, t_modl, i_lt, i_ltl, i_llt, i_le, i_lel, i_lle, i_eq, i_eql, i_leq, Nat.zero_le, d_beq, d_bne, d_bytes, byte_at, Int.toNat_natCast, toNat_lit, decide_eq_true, decide_eq_false, if_pos, if_neg, slA_len, slA_idx, slA_cells, flat_slA, one_slA, cells_slA, map_mid, strV_is, hp_get1, hp_get2, hp_get3, hp_set1, hp_set2, hp_set3, hp_old, hp_sold, set_got, set_set, set_next, set_other, bytesL, bytes_all, List.length_map, aapp_nils, aapp_wr, List.flatMap_cons, List.flatMap_nil, Nat.mul_one]
  exact aret_plain hs (by rw [u_slA]; exact sp_u _ _) this
end Go.Proofs.YtfiihgaohihppaaDoor.AL

