/- Pairs told: one put among the others, by the document; a copy. -/
import Derived.Test.YtfilheaaacffmaaQKvSetsALKv5
set_option linter.unusedSimpArgs false
set_option linter.unusedVariables false
set_option maxRecDepth 100000
set_option maxHeartbeats 16000000
namespace Go.Proofs.Ytfilheaaacffmaa.AL
open Go Go.Proofs
attribute [local go_sem] go_seq go_skip go_region go_regionN go_fregion rgF_some go_cond go_block go_exit go_ret nxt_nil nxt_code nxt_blk nxt_cut leave_nil leave_code leave_cut leave_blk rtn_nil rtn_code rtn_blk rtn_cut cnd_t cnd_f rgn_nil rgY_some rgY_none rgH_some rgP_some retTo_is rgV_func grd_und grd_tt grd_ff grd_tf grd_ft rgn_q rgn_alloc rgn_box rgn_store rgn_lit rgn_litw litCells_nil litCells_cons rgn_app rgn_copy rgn_mk rgn_s2b rgn_call rgn_callv rgn_stop rgn_slice3 aslice3 rgn_slice3l aslice3l rgn_appz rgn_clear rgn_range rgn_next arange acap rgn_put rgn_mkmap rgn_lookup rgn_mapup alookup_nilm alookup_map amapup_map afound_ok afound_no rgn_c rgn_cv qclV_func aloadr rgn_guard post_ret post_normal retY_some ares aresL ares1 AX.ev aput List.getD_cons_zero List.getD_cons_succ List.set_cons_zero List.set_cons_succ List.map_cons List.map_nil aq abin aint astr abeq aconv asame aextract alenS alenL_nils alenL_emp alenL_imm alenL_wr alenL_wc aun apart aload afieldAddr afield aidxSl_wr aidxSl_wc aidxSl_imm aidxPt aidxStr aidxArr abound asliceStr asliceSl asliceArr abest anonil afill astore acells_nils acells_emp acells_imm acells_wr acells_wc acells_str acopy litAll amk as2b anil nilOf aseq aeqs aeqv fits fit1 hp_next hp_push hp_get hp_set List.length_cons List.length_nil List.getElem?_cons_zero List.getElem?_cons_succ List.cons_append List.nil_append List.append_nil List.take_succ_cons List.take_zero List.drop_succ_cons List.drop_zero List.all_cons List.all_nil Option.map_some Option.some.injEq Bool.and_true Bool.true_and Bool.false_eq_true if_true if_false ite_true ite_false Bool.and_self true_and and_true and_self Nat.zero_add Nat.le_refl Int.toNat_natCast beq_self_eq_true eq_self tops_zero tops_succ Int.natCast_nonneg List.take_nil List.drop_nil Option.map_none flat_bool one_bool cells_bool flat_int one_int cells_int flat_str one_str cells_str flat_nilp one_nilp cells_nilp flat_ptr one_ptr cells_ptr flat_nils one_nils cells_nils flat_imm one_imm cells_imm flat_wr one_wr cells_wr flat_wc one_wc cells_wc flat_func one_func cells_func flat_nilf one_nilf cells_nilf flat_map one_map cells_map flat_nilm one_nilm cells_nilm flat_iface one_iface cells_iface flat_nili one_nili cells_nili flat_rd one_rd cells_rd flat_emp one_emp cells_emp flat_byteV one_byteV cells_byteV flat_agg cells_agg one_agg B_size B_list B_ext B_toList B_app List.take_length Int.le_refl
def notK (k : List UInt8) (q : List UInt8 × List UInt8) : Bool := !decide (q.1 = k)
def putP : List (List UInt8 × List UInt8) → (List UInt8 × List UInt8) → List (List UInt8 × List UInt8)
  | [], p => [p]
  | q :: l, p => if less q.1 p.1 = true then q :: putP l p else p :: (q :: l).filter (notK p.1)
theorem slat_low {n0 n1 : Nat} {G : AHeap} {e sz : Nat} {v : AV} {xs : List AV} (h : SlAt n1 G e sz v xs) (hn : n0 ≤ n1) : SlAt n0 G e sz v xs := by
  rcases h with h | ⟨id, gen, h1, h2, h3⟩
  · exact .inl h
  · exact .inr ⟨id, gen, h1, Nat.le_trans hn h2, h3⟩
theorem slat_nid {n0 : Nat} {G : AHeap} {e sz : Nat} {v : AV} {xs : List AV} (h : SlAt n0 G e sz v xs) {j : Nat} (hj : j < n0) : ∀ gen off len sz, v ≠ .wr j gen off len sz := by
  intro gen off len sz' hv
  rcases h with ⟨rfl, _⟩ | ⟨id, gen', rfl, hid, _⟩
  · cases hv
  · cases hv
    omega
theorem prs_u (n : Nat) (l : List (List UInt8 × List UInt8)) : AllC n (l.map prV) := uc_map n l (fun p => by rw [prV_cells]; simp only [u_top, u_bool, u_int, u_str, u_nilp, u_nils, u_nilf, u_nilm, u_nili, u_emp, u_byteV, u_ptr, u_wr, u_wc, u_agg, u_tup, u_rd, u_imm, u_func, u_nil, u_cons, u_app, uc_nil, uc_cons, uc_app, u_bytes, uc_bytes, u_ints, uc_ints, cells_bool, cells_int, cells_str, cells_agg, cells_ptr, cells_nils, cells_imm, cells_wr, cells_wc, cells_nilp, cells_nilf, cells_nilm, cells_rd, cells_emp, cells_byteV, cells_func, and_self, and_true, true_and, u_slA, uc_strs, cells_slA, strV_is])
theorem prs_one (l : List (List UInt8 × List UInt8)) : ((l.map prV).flatMap AV.cells).all AV.one = true := by
  rw [List.all_eq_true]
  intro c hc
  obtain ⟨x, hx, hcx⟩ := List.mem_flatMap.1 hc
  obtain ⟨p, _, rfl⟩ := List.mem_map.1 hx
  rw [prV_cells] at hcx
  simp only [List.mem_cons, List.mem_nil_iff, or_false] at hcx
  rcases hcx with rfl | rfl <;> rfl
section
variable {H : AHeap} {K : AV → AHeap → Prop}
theorem put_app {G : AHeap} {v : AV} {out : List (List UInt8 × List UInt8)} {o : AObj} (q : List UInt8 × List UInt8) (hG : Past H G) (hGn : H.next + 1 ≤ G.next) (hg0 : G.get (H.next + 0) = some o) (hv : SlAt (H.next + 1) G 94 2 v (out.map prV)) (hl : out.length ≤ 2000000) (hw : G.within G.next) :
    ∃ v3 G3, aapp 94 2 32 (hp G []) v (.imm 2 [.agg [.str (B q.1), .str (B q.2)]]) = some (v3, hp G3 []) ∧ SlAt (H.next + 1) G3 94 2 v3 ((out ++ [q]).map prV) ∧ Past H G3 ∧ H.next + 1 ≤ G3.next ∧ G3.get (H.next + 0) = some o ∧ G3.within G3.next := by
  obtain ⟨v3, G3, hE, hv3, hgr, hw3⟩ := slat_app2 (G := hp G []) (b := 32) (ys := [prV q]) (slat_hp hv []) (by rw [hp_nil]; exact hGn) (prs_len out) (prs_one [q]) (by simp only [List.length_map, List.length_singleton]; omega) (by rw [hp_nil]; exact hw) (fun n => prs_u n out) (fun n => prs_u n [q])
  rw [hp_nil] at hgr
  refine ⟨v3, G3, hE, by rw [List.map_append]; exact hv3, ⟨Nat.le_trans hG.next hgr.next, fun i hi => (hgr.old i (by omega)).trans (hG.get i hi)⟩, Nat.le_trans hGn hgr.next, (hgr.old _ (by omega)).trans hg0, hw3⟩
theorem put_a {k : Nat} {l : List (List UInt8 × List UInt8)} {p : List UInt8 × List UInt8} (hn : l.length ≤ 1000000) (h : ∀ k, K (slA k 2 ((putP l p).map prV)) H) : (ACalls Try.prog) 120 [slA k 2 (l.map prV), prV p] H K := by
  refine acalls_go mo t120 (fun hs hu => ?_)
  simp only [c120, prV_is, go_sem, Nat.reduceLeDiff, Nat.reduceAdd, Nat.reduceSub, Nat.reduceMul, Nat.reduceLT, Int.reduceLT, Int.reduceLE, Int.reduceAdd, Int.reduceSub, Int.reduceMul, Int.reduceToNat, Int.reduceNeg, Int.reduceEq, Nat.reducePow, Int.reducePow, Nat.reduceEqDiff, decide_true, decide_false, reduceIte, reduceCtorEq, Int.reduceBEq, Int.reduceBNe, bne_self_eq_false, Int.cast_ofNat_Int, Bool.not_true, Bool.not_false, IntKind.bits]
  rw [← hp_nil (H := hp H _)]
  refine go_loopS mono (σ := AHeap × AV × List (List UInt8 × List UInt8) × Bool × Nat) (fun z => [(5, z.2.1), (6, .bool z.2.2.2.1), (7, .int .i64 (z.2.2.2.2 : Int))]) (fun z => hp z.1 [])
    (fun z => Past H z.1 ∧ H.next + 1 ≤ z.1.next ∧ z.1.get (H.next + 0) = some (.row 94 0 [.str (B p.1), .str (B p.2)]) ∧ SlAt (H.next + 1) z.1 94 2 z.2.1 (z.2.2.1.map prV) ∧ z.2.2.2.2 ≤ l.length ∧ z.2.2.1.length ≤ z.2.2.2.2 + 1 ∧ z.1.within z.1.next ∧
      (z.2.2.2.1 = false → z.2.2.1.length ≤ z.2.2.2.2 ∧ z.2.2.1 ++ putP (l.drop z.2.2.2.2) p = putP l p) ∧ (z.2.2.2.1 = true → z.2.2.1 ++ (l.drop z.2.2.2.2).filter (notK p.1) = putP l p))
    (fun z => l.length - z.2.2.2.2) (_, .nils, [], false, 0) ?_ rfl ⟨past_hp past_refl _, by show H.next + 1 ≤ H.next + 1; omega, hp_get _ _ 0, slat_nil, Nat.zero_le _, Nat.zero_le _, within_hp2 hs (fun o ho => by
      rw [List.mem_singleton] at ho
      subst ho
      exact fun c hc => by
        simp only [List.mem_cons, List.mem_nil_iff, or_false] at hc
        rcases hc with rfl | rfl
        · exact .str _
        · exact .str _), fun _ => ⟨Nat.zero_le _, rfl⟩, fun e => by cases e⟩ (fun z hz J hJ => ?_)
  · (simp only [blurR_nil, blurR_some, blurR_none, blurC_region, blurC_regionN, blurC_fregion, blurT_nil, blurT_cons, blurC_seq, blurC_cond, blurC_block, blurC_loop, blurC_skip, blurC_exit, blurC_ret, tellS_nil, tellS_cons, List.set_cons_zero, List.set_cons_succ, tops_zero, tops_succ]; repeat first | exact forget_nil | apply forget_keep | apply forget_top)
  obtain ⟨G, v, out, done, i⟩ := z
  obtain ⟨hG, hGn, hg0, hv, hil, hol, hGw, hno, hyes⟩ := hz
  simp only at hG hGn hg0 hv hil hol hGw hno hyes
  have hlg := G.lt hg0
  have hvl := slat_len hv
  rw [List.length_map] at hvl
  simp only [blurR_nil, blurR_some, blurR_none, blurC_region, blurC_regionN, blurC_fregion, blurT_nil, blurT_cons, blurC_seq, blurC_cond, blurC_block, blurC_loop, blurC_skip, blurC_exit, blurC_ret, tellS_nil, tellS_cons, List.set_cons_zero, List.set_cons_succ, tops_zero, tops_succ]
  by_cases h1 : i < l.length
  · have ha := pr_at h1
    have hd : l.drop i = l.getD i ([], []) :: l.drop (i + 1) := by rw [List.drop_eq_getElem_cons h1, List.getD_eq_getElem?_getD, List.getElem?_eq_getElem h1]; rfl
    rw [hd] at hno hyes
    have hJ2 := fun (G2 : AHeap) (v2 : AV) (out2 : List (List UInt8 × List UInt8)) (done2 : Bool) p1 p2 p3 p4 (p5 : out2.length ≤ i + 1 + 1) p6 (p7 : done2 = false → out2.length ≤ i + 1 ∧ out2 ++ putP (l.drop (i + 1)) p = putP l p) (p8 : done2 = true → out2 ++ (l.drop (i + 1)).filter (notK p.1) = putP l p) a' => hJ (G2, v2, out2, done2, i + 1) a' ⟨p1, p2, p3, p4, h1, p5, p6, p7, p8⟩ (by show l.length - (i + 1) < l.length - i; omega)
    clear hJ hd
    generalize l.getD i ([], []) = q at *
    cases done with
    | false =>
      obtain ⟨q1, q2⟩ := hno rfl
      rw [putP] at q2
      cases hb : less q.1 p.1 with
      | true =>
        rw [hb, if_pos rfl] at q2
        have hne : ¬ q.1 = p.1 := fun e => by rw [e, less_irr] at hb; cases hb
        obtain ⟨v3, G3, hE, hv3, r1, r2, r3, r4⟩ := put_app q hG hGn hg0 hv (by omega) hGw
        have hb2 : Op.bytesLess q.1 p.1 = true := hb
        simp (maxSteps := 4000000) (disch := (first | omega | (simp only [set_next, List.length_append, List.length_cons, List.length_nil, List.length_take, List.length_drop, List.length_map, List.length_set, List.length_replicate]; omega) | (simp only [set_next, ne_eq, reduceCtorEq, not_false_eq_true]))) only [ha, prV_cells, hg0, B_toList, hb2, hne, hE, go_sem, Nat.reduceLeDiff, Nat.reduceAdd, Nat.reduceSub, Nat.reduceMul, Nat.reduceLT, Int.reduceLT, Int.reduceLE, Int.reduceAdd, Int.reduceSub, Int.reduceMul, Int.reduceToNat, Int.reduceNeg, Int.reduceEq, Nat.reducePow, Int.reducePow, Nat.reduceEqDiff, decide_true, decide_false, reduceIte, reduceCtorEq, Int.reduceBEq, Int.reduceBNe, bne_self_eq_false, Int.cast_ofNat_Int, Bool.not_true, Bool.not_false, IntKind.bits, w_nat, w_lit, w_add, w_addl, w_ladd, w_sub, w_subl, w_lsub, w_mul, w_mull, w_lmul, t_div, t_divl, t_mod, t_modl, i_lt, i_ltl, i_llt, i_le, i_lel, i_lle, i_eq, i_eql, i_leq, Nat.zero_le, d_beq, d_bne, d_bytes, byte_at, Int.toNat_natCast, toNat_lit, decide_eq_true, decide_eq_false, if_pos, if_neg, slA_len, slA_idx, slA_cells, flat_slA, one_slA, cells_slA, map_mid, strV_is, hp_get1, hp_get2, hp_get3, hp_set1, hp_set2, hp_set3, hp_old, hp_sold, set_got, set_set, set_next, set_other, bytesL, bytes_all, List.length_map, aapp_nils, aapp_wr, List.flatMap_cons, List.flatMap_nil, Nat.mul_one]
        exact hJ2 G3 v3 (out ++ [q]) false r1 r2 r3 hv3 (by rw [List.length_append, List.length_singleton]; omega) r4 (fun _ => ⟨by rw [List.length_append, List.length_singleton]; omega, by rw [List.append_assoc]; exact q2⟩) (fun e => by cases e) _ (by (simp only [blurR_nil, blurR_some, blurR_none, blurC_region, blurC_regionN, blurC_fregion, blurT_nil, blurT_cons, blurC_seq, blurC_cond, blurC_block, blurC_loop, blurC_skip, blurC_exit, blurC_ret, tellS_nil, tellS_cons, List.set_cons_zero, List.set_cons_succ, tops_zero, tops_succ]; repeat first | exact forget_nil | apply forget_keep | apply forget_top))
      | false =>
        rw [hb, if_neg Bool.false_ne_true, List.filter_cons] at q2
        obtain ⟨v3, G3, hE, hv3, r1, r2, r3, r4⟩ := put_app p hG hGn hg0 hv (by omega) hGw
        have hb2 : Op.bytesLess q.1 p.1 = false := hb
        have hl3 := G3.lt r3
        by_cases hq : q.1 = p.1
        · have hk : notK p.1 q = false := by unfold notK; rw [decide_eq_true hq]; rfl
          rw [hk, if_neg Bool.false_ne_true] at q2
          rw [hq] at hb2
          simp (maxSteps := 4000000) (disch := (first | omega | (simp only [set_next, List.length_append, List.length_cons, List.length_nil, List.length_take, List.length_drop, List.length_map, List.length_set, List.length_replicate]; omega) | (simp only [set_next, ne_eq, reduceCtorEq, not_false_eq_true]))) only [ha, prV_cells, hg0, B_toList, hq, hb2, hE, r3, go_sem, Nat.reduceLeDiff, Nat.reduceAdd, Nat.reduceSub, Nat.reduceMul, Nat.reduceLT, Int.reduceLT, Int.reduceLE, Int.reduceAdd, Int.reduceSub, Int.reduceMul, Int.reduceToNat, Int.reduceNeg, Int.reduceEq, Nat.reducePow, Int.reducePow, Nat.reduceEqDiff, decide_true, decide_false, reduceIte, reduceCtorEq, Int.reduceBEq, Int.reduceBNe, bne_self_eq_false, Int.cast_ofNat_Int, Bool.not_true, Bool.not_false, IntKind.bits, w_nat, w_lit, w_add, w_addl, w_ladd, w_sub, w_subl, w_lsub, w_mul, w_mull, w_lmul, t_div, t_divl, t_mod, t_modl, i_lt, i_ltl, i_llt, i_le, i_lel, i_lle, i_eq, i_eql, i_leq, Nat.zero_le, d_beq, d_bne, d_bytes, byte_at, Int.toNat_natCast, toNat_lit, decide_eq_true, decide_eq_false, if_pos, if_neg, slA_len, slA_idx, slA_cells, flat_slA, one_slA, cells_slA, map_mid, strV_is, hp_get1, hp_get2, hp_get3, hp_set1, hp_set2, hp_set3, hp_old, hp_sold, set_got, set_set, set_next, set_other, bytesL, bytes_all, List.length_map, aapp_nils, aapp_wr, List.flatMap_cons, List.flatMap_nil, Nat.mul_one]
          exact hJ2 G3 v3 (out ++ [p]) true r1 r2 r3 hv3 (by rw [List.length_append, List.length_singleton]; omega) r4 (fun e => by cases e) (fun _ => by rw [List.append_assoc]; exact q2) _ (by (simp only [blurR_nil, blurR_some, blurR_none, blurC_region, blurC_regionN, blurC_fregion, blurT_nil, blurT_cons, blurC_seq, blurC_cond, blurC_block, blurC_loop, blurC_skip, blurC_exit, blurC_ret, tellS_nil, tellS_cons, List.set_cons_zero, List.set_cons_succ, tops_zero, tops_succ]; repeat first | exact forget_nil | apply forget_keep | apply forget_top))
        · have hk : notK p.1 q = true := by unfold notK; rw [decide_eq_false hq]; rfl
          rw [hk, if_pos rfl] at q2
          obtain ⟨v4, G4, hE2, hv4, s1, s2, s3, s4⟩ := put_app q r1 r2 r3 hv3 (by rw [List.length_append, List.length_singleton]; omega) r4
          simp (maxSteps := 4000000) (disch := (first | omega | (simp only [set_next, List.length_append, List.length_cons, List.length_nil, List.length_take, List.length_drop, List.length_map, List.length_set, List.length_replicate]; omega) | (simp only [set_next, ne_eq, reduceCtorEq, not_false_eq_true]))) only [ha, prV_cells, hg0, B_toList, hq, hb2, hE, r3, hE2, go_sem, Nat.reduceLeDiff, Nat.reduceAdd, Nat.reduceSub, Nat.reduceMul, Nat.reduceLT, Int.reduceLT, Int.reduceLE, Int.reduceAdd, Int.reduceSub, Int.reduceMul, Int.reduceToNat, Int.reduceNeg, Int.reduceEq, Nat.reducePow, Int.reducePow, Nat.reduceEqDiff, decide_true, decide_false, reduceIte, reduceCtorEq, Int.reduceBEq, Int.reduceBNe, bne_self_eq_false, Int.cast_ofNat_Int, Bool.not_true, Bool.not_false, IntKind.bits, w_nat, w_lit, w_add, w_addl, w_ladd, w_sub, w_subl, w_lsub, w_mul, w_mull, w_lmul, t_div, t_divl, t_mod, t_modl, i_lt, i_ltl, i_llt, i_le, i_lel, i_lle, i_eq, i_eql, i_leq, Nat.zero_le, d_beq, d_bne, d_bytes, byte_at, Int.toNat_natCast, toNat_lit, decide_eq_true, decide_eq_false, if_pos, if_neg, slA_len, slA_idx, slA_cells, flat_slA, one_slA, cells_slA, map_mid, strV_is, hp_get1, hp_get2, hp_get3, hp_set1, hp_set2, hp_set3, hp_old, hp_sold, set_got, set_set, set_next, set_other, bytesL, bytes_all, List.length_map, aapp_nils, aapp_wr, List.flatMap_cons, List.flatMap_nil, Nat.mul_one]
          exact hJ2 G4 v4 (out ++ [p] ++ [q]) true s1 s2 s3 hv4 (by rw [List.length_append, List.length_append, List.length_singleton, List.length_singleton]; omega) s4 (fun e => by cases e) (fun _ => by rw [List.append_assoc, List.append_assoc]; exact q2) _ (by (simp only [blurR_nil, blurR_some, blurR_none, blurC_region, blurC_regionN, blurC_fregion, blurT_nil, blurT_cons, blurC_seq, blurC_cond, blurC_block, blurC_loop, blurC_skip, blurC_exit, blurC_ret, tellS_nil, tellS_cons, List.set_cons_zero, List.set_cons_succ, tops_zero, tops_succ]; repeat first | exact forget_nil | apply forget_keep | apply forget_top))
    | true =>
      have q2 := hyes rfl
      rw [List.filter_cons] at q2
      by_cases hq : q.1 = p.1
      · have hk : notK p.1 q = false := by unfold notK; rw [decide_eq_true hq]; rfl
        rw [hk, if_neg Bool.false_ne_true] at q2
        simp (maxSteps := 4000000) (disch := (first | omega | (simp only [set_next, List.length_append, List.length_cons, List.length_nil, List.length_take, List.length_drop, List.length_map, List.length_set, List.length_replicate]; omega) | (simp only [set_next, ne_eq, reduceCtorEq, not_false_eq_true]))) only [ha, prV_cells, hg0, B_toList, hq, go_sem, Nat.reduceLeDiff, Nat.reduceAdd, Nat.reduceSub, Nat.reduceMul, Nat.reduceLT, Int.reduceLT, Int.reduceLE, Int.reduceAdd, Int.reduceSub, Int.reduceMul, Int.reduceToNat, Int.reduceNeg, Int.reduceEq, Nat.reducePow, Int.reducePow, Nat.reduceEqDiff, decide_true, decide_false, reduceIte, reduceCtorEq, Int.reduceBEq, Int.reduceBNe, bne_self_eq_false, Int.cast_ofNat_Int, Bool.not_true, Bool.not_false, IntKind.bits, w_nat, w_lit, w_add, w_addl, w_ladd, w_sub, w_subl, w_lsub, w_mul, w_mull, w_lmul, t_div, t_divl, t_mod, t_modl, i_lt, i_ltl, i_llt, i_le, i_lel, i_lle, i_eq, i_eql, i_leq, Nat.zero_le, d_beq, d_bne, d_bytes, byte_at, Int.toNat_natCast, toNat_lit, decide_eq_true, decide_eq_false, if_pos, if_neg, slA_len, slA_idx, slA_cells, flat_slA, one_slA, cells_slA, map_mid, strV_is, hp_get1, hp_get2, hp_get3, hp_set1, hp_set2, hp_set3, hp_old, hp_sold, set_got, set_set, set_next, set_other, bytesL, bytes_all, List.length_map, aapp_nils, aapp_wr, List.flatMap_cons, List.flatMap_nil, Nat.mul_one]
        exact hJ2 G v out true hG hGn hg0 hv (by omega) hGw (fun e => by cases e) (fun _ => q2) _ (by (simp only [blurR_nil, blurR_some, blurR_none, blurC_region, blurC_regionN, blurC_fregion, blurT_nil, blurT_cons, blurC_seq, blurC_cond, blurC_block, blurC_loop, blurC_skip, blurC_exit, blurC_ret, tellS_nil, tellS_cons, List.set_cons_zero, List.set_cons_succ, tops_zero, tops_succ]; repeat first | exact forget_nil | apply forget_keep | apply forget_top))
      · have hk : notK p.1 q = true := by unfold notK; rw [decide_eq_false hq]; rfl
        rw [hk, if_pos rfl] at q2
        obtain ⟨v3, G3, hE, hv3, r1, r2, r3, r4⟩ := put_app q hG hGn hg0 hv (by omega) hGw
        simp (maxSteps := 4000000) (disch := (first | omega | (simp only [set_next, List.length_append, List.length_cons, List.length_nil, List.length_take, List.length_drop, List.length_map, List.length_set, List.length_replicate]; omega) | (simp only [set_next, ne_eq, reduceCtorEq, not_false_eq_true]))) only [ha, prV_cells, hg0, B_toList, hq, hE, go_sem, Nat.reduceLeDiff, Nat.reduceAdd, Nat.reduceSub, Nat.reduceMul, Nat.reduceLT, Int.reduceLT, Int.reduceLE, Int.reduceAdd, Int.reduceSub, Int.reduceMul, Int.reduceToNat, Int.reduceNeg, Int.reduceEq, Nat.reducePow, Int.reducePow, Nat.reduceEqDiff, decide_true, decide_false, reduceIte, reduceCtorEq, Int.reduceBEq, Int.reduceBNe, bne_self_eq_false, Int.cast_ofNat_Int, Bool.not_true, Bool.not_false, IntKind.bits, w_nat, w_lit, w_add, w_addl, w_ladd, w_sub, w_subl, w_lsub, w_mul, w_mull, w_lmul, t_div, t_divl, t_mod, t_modl, i_lt, i_ltl, i_llt, i_le, i_lel, i_lle, i_eq, i_eql, i_leq, Nat.zero_le, d_beq, d_bne, d_bytes, byte_at, Int.toNat_natCast, toNat_lit, decide_eq_true, decide_eq_false, if_pos, if_neg, slA_len, slA_idx, slA_cells, flat_slA, one_slA, cells_slA, map_mid, strV_is, hp_get1, hp_get2, hp_get3, hp_set1, hp_set2, hp_set3, hp_old, hp_sold, set_got, set_set, set_next, set_other, bytesL, bytes_all, List.length_map, aapp_nils, aapp_wr, List.flatMap_cons, List.flatMap_nil, Nat.mul_one]
        exact hJ2 G3 v3 (out ++ [q]) true r1 r2 r3 hv3 (by rw [List.length_append, List.length_singleton]; omega) r4 (fun e => by cases e) (fun _ => by rw [List.append_assoc]; exact q2) _ (by (simp only [blurR_nil, blurR_some, blurR_none, blurC_region, blurC_regionN, blurC_fregion, blurT_nil, blurT_cons, blurC_seq, blurC_cond, blurC_block, blurC_loop, blurC_skip, blurC_exit, blurC_ret, tellS_nil, tellS_cons, List.set_cons_zero, List.set_cons_succ, tops_zero, tops_succ]; repeat first | exact forget_nil | apply forget_keep | apply forget_top))
  · rw [List.drop_of_length_le (by omega)] at hno hyes
    cases done with
    | false =>
      obtain ⟨q1, q2⟩ := hno rfl
      obtain ⟨v3, G3, hE, hv3, r1, r2, r3, r4⟩ := put_app p hG hGn hg0 hv (by omega) hGw
      have q2 : out ++ [p] = putP l p := q2
      rw [q2] at hv3
      simp (maxSteps := 4000000) (disch := (first | omega | (simp only [set_next, List.length_append, List.length_cons, List.length_nil, List.length_take, List.length_drop, List.length_map, List.length_set, List.length_replicate]; omega) | (simp only [set_next, ne_eq, reduceCtorEq, not_false_eq_true]))) only [hg0, hE, go_sem, Nat.reduceLeDiff, Nat.reduceAdd, Nat.reduceSub, Nat.reduceMul, Nat.reduceLT, Int.reduceLT, Int.reduceLE, Int.reduceAdd, Int.reduceSub, Int.reduceMul, Int.reduceToNat, Int.reduceNeg, Int.reduceEq, Nat.reducePow, Int.reducePow, Nat.reduceEqDiff, decide_true, decide_false, reduceIte, reduceCtorEq, Int.reduceBEq, Int.reduceBNe, bne_self_eq_false, Int.cast_ofNat_Int, Bool.not_true, Bool.not_false, IntKind.bits, w_nat, w_lit, w_add, w_addl, w_ladd, w_sub, w_subl, w_lsub, w_mul, w_mull, w_lmul, t_div, t_divl, t_mod, t_modl, i_lt, i_ltl, i_llt, i_le, i_lel, i_lle, i_eq, i_eql, i_leq, Nat.zero_le, d_beq, d_bne, d_bytes, byte_at, Int.toNat_natCast, toNat_lit, decide_eq_true, decide_eq_false, if_pos, if_neg, slA_len, slA_idx, slA_cells, flat_slA, one_slA, cells_slA, map_mid, strV_is, hp_get1, hp_get2, hp_get3, hp_set1, hp_set2, hp_set3, hp_old, hp_sold, set_got, set_set, set_next, set_other, bytesL, bytes_all, List.length_map, aapp_nils, aapp_wr, List.flatMap_cons, List.flatMap_nil, Nat.mul_one]
      rw [hp_nil]
      exact slat_ret (slat_low hv3 (Nat.le_succ _)) (prs_len _) r1 hs (prs_u _ _) h
    | true =>
      have q := hyes rfl
      rw [List.filter_nil, List.append_nil] at q
      rw [q] at hv
      simp (maxSteps := 4000000) (disch := (first | omega | (simp only [set_next, List.length_append, List.length_cons, List.length_nil, List.length_take, List.length_drop, List.length_map, List.length_set, List.length_replicate]; omega) | (simp only [set_next, ne_eq, reduceCtorEq, not_false_eq_true]))) only [go_sem, Nat.reduceLeDiff, Nat.reduceAdd, Nat.reduceSub, Nat.reduceMul, Nat.reduceLT, Int.reduceLT, Int.reduceLE, Int.reduceAdd, Int.reduceSub, Int.reduceMul, Int.reduceToNat, Int.reduceNeg, Int.reduceEq, Nat.reducePow, Int.reducePow, Nat.reduceEqDiff, decide_true, decide_false, reduceIte, reduceCtorEq, Int.reduceBEq, Int.reduceBNe, bne_self_eq_false, Int.cast_ofNat_Int, Bool.not_true, Bool.not_false, IntKind.bits, w_nat, w_lit, w_add, w_addl, w_ladd, w_sub, w_subl, w_lsub, w_mul, w_mull, w_lmul, t_div, t_divl, t_mod, t_modl, i_lt, i_ltl, i_llt, i_le, i_lel, i_lle, i_eq, i_eql, i_leq, Nat.zero_le, d_beq, d_bne, d_bytes, byte_at, Int.toNat_natCast, toNat_lit, decide_eq_true, decide_eq_false, if_pos, if_neg, slA_len, slA_idx, slA_cells, flat_slA, one_slA, cells_slA, map_mid, strV_is, hp_get1, hp_get2, hp_get3, hp_set1, hp_set2, hp_set3, hp_old, hp_sold, set_got, set_set, set_next, set_other, bytesL, bytes_all, List.length_map, aapp_nils, aapp_wr, List.flatMap_cons, List.flatMap_nil, Nat.mul_one]
      rw [hp_nil]
      exact slat_ret (slat_low hv (Nat.le_succ _)) (prs_len _) hG hs (prs_u _ _) h
end
end Go.Proofs.Ytfilheaaacffmaa.AL

