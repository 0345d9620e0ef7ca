/- Spans told: what is free, by the program. -/
import Derived.Test.YtdknpnmdjjmapaaQReserveBytesALRes6
set_option linter.unusedSimpArgs false
set_option linter.unusedVariables false
set_option maxRecDepth 100000
set_option maxHeartbeats 16000000
namespace Go.Proofs.Ytdknpnmdjjmapaa.AL
open Go Go.Proofs
attribute [local go_sem] go_seq go_skip go_region go_regionN go_fregion rgF_some go_cond go_block go_exit go_ret nxt_nil nxt_code nxt_blk nxt_cut leave_nil leave_code leave_cut leave_blk rtn_nil rtn_code rtn_blk rtn_cut cnd_t cnd_f rgn_nil rgY_some rgY_none rgH_some rgP_some retTo_is rgV_func grd_und grd_tt grd_ff grd_tf grd_ft rgn_q rgn_alloc rgn_box rgn_store rgn_lit rgn_litw litCells_nil litCells_cons rgn_app rgn_copy rgn_mk rgn_s2b rgn_call rgn_callv rgn_stop rgn_slice3 aslice3 rgn_slice3l aslice3l rgn_appz rgn_clear rgn_range rgn_next arange acap rgn_put rgn_mkmap rgn_lookup rgn_mapup alookup_nilm alookup_map amapup_map afound_ok afound_no rgn_c rgn_cv qclV_func aloadr rgn_guard post_ret post_normal retY_some ares aresL ares1 AX.ev aput List.getD_cons_zero List.getD_cons_succ List.set_cons_zero List.set_cons_succ List.map_cons List.map_nil aq abin aint astr abeq aconv asame aextract alenS alenL_nils alenL_emp alenL_imm alenL_wr alenL_wc aun apart aload afieldAddr afield aidxSl_wr aidxSl_wc aidxSl_imm aidxPt aidxStr aidxArr abound asliceStr asliceSl asliceArr abest anonil afill astore acells_nils acells_emp acells_imm acells_wr acells_wc acells_str acopy litAll amk as2b anil nilOf aseq aeqs aeqv fits fit1 hp_next hp_push hp_get hp_set List.length_cons List.length_nil List.getElem?_cons_zero List.getElem?_cons_succ List.cons_append List.nil_append List.append_nil List.take_succ_cons List.take_zero List.drop_succ_cons List.drop_zero List.all_cons List.all_nil Option.map_some Option.some.injEq Bool.and_true Bool.true_and Bool.false_eq_true if_true if_false ite_true ite_false Bool.and_self true_and and_true and_self Nat.zero_add Nat.le_refl Int.toNat_natCast beq_self_eq_true eq_self tops_zero tops_succ Int.natCast_nonneg List.take_nil List.drop_nil Option.map_none flat_bool one_bool cells_bool flat_int one_int cells_int flat_str one_str cells_str flat_nilp one_nilp cells_nilp flat_ptr one_ptr cells_ptr flat_nils one_nils cells_nils flat_imm one_imm cells_imm flat_wr one_wr cells_wr flat_wc one_wc cells_wc flat_func one_func cells_func flat_nilf one_nilf cells_nilf flat_map one_map cells_map flat_nilm one_nilm cells_nilm flat_iface one_iface cells_iface flat_nili one_nili cells_nili flat_rd one_rd cells_rd flat_emp one_emp cells_emp flat_byteV one_byteV cells_byteV flat_agg cells_agg one_agg B_size B_list B_ext B_toList B_app List.take_length Int.le_refl
structure FreeAt (n0 fid oid : Nat) (G : AHeap) (f : Int) (v : AV) (out : List (Int × Int)) : Prop where
  frm : G.get fid = some (.row 3 0 [.int .i64 f])
  box : G.get oid = some (.row 27 0 [v])
  sl : SlAt n0 G 64 2 v (out.map spV)
  wit : G.within G.next
theorem slat_flat {n0 : Nat} {G : AHeap} {e sz : Nat} {v : AV} {xs : List AV} (h : SlAt n0 G e sz v xs) : v.flat = true ∧ v.cells = [v] ∧ v.one = true := by
  rcases h with ⟨rfl, _⟩ | ⟨id, gen, rfl, _⟩
  · exact ⟨rfl, rfl, rfl⟩
  · exact ⟨rfl, rfl, rfl⟩
theorem free_setf {n0 fid oid : Nat} {G : AHeap} {f f2 : Int} {v : AV} {out : List (Int × Int)} (h : FreeAt n0 fid oid G f v out) (h1 : fid < n0) (h3 : fid ≠ oid) : FreeAt n0 fid oid (G.set fid (.row 3 0 [.int .i64 f2])) f2 v out := by
  refine ⟨set_got (G.lt h.frm), (set_other (fun e => h3 e.symm)).trans h.box, ?_, within_set h.wit (fun c hc => ?_)⟩
  · rcases h.sl with q | ⟨id, gen, q1, q2, q3⟩
    · exact .inl q
    · exact .inr ⟨id, gen, q1, q2, (set_other (by omega)).trans q3⟩
  · rw [List.mem_singleton] at hc
    rw [hc]
    exact .int _ _
section
variable {H : AHeap} {K : AV → AHeap → Prop}
theorem gap_a {n0 fid oid : Nat} {f t : Int} {v : AV} {out : List (Int × Int)} (hF : FreeAt n0 fid oid H f v out) (h1 : fid < n0) (h2 : oid < n0) (h3 : fid ≠ oid) (hn : n0 ≤ H.next) (hl : out.length ≤ 1000000) (hf : 0 ≤ f ∧ f ≤ 8589934590) (ht : 0 ≤ t ∧ t ≤ 8589934590)
    (hyes : f < t → ∀ v' G, FreeAt n0 fid oid G f v' (out ++ [(f, t - f)]) → H.next ≤ G.next → (∀ i o, H.get i = some o → i ≠ oid → (∀ gen off len sz, v ≠ .wr i gen off len sz) → G.get i = some o) → (∀ i, i < n0 → i ≠ oid → G.get i = H.get i) → K (.tup []) G) (hno : ¬ f < t → K (.tup []) H) :
    (ACalls Try.prog) 61 [.int .i64 t, .ptr fid 0 0, .ptr oid 0 0] H K := by
  refine acalls_go mo t61 (fun hs hu => ?_)
  obtain ⟨hg1, hg2, hsl, hw⟩ := hF
  have hl1 := H.lt hg1
  have hl2 := H.lt hg2
  simp only [c61, go_sem, Nat.reduceLeDiff, Nat.reduceAdd, Nat.reduceSub, Nat.reduceMul, Nat.reduceLT, Int.reduceLT, Int.reduceLE, Int.reduceAdd, Int.reduceSub, Int.reduceMul, Int.reduceToNat, Int.reduceNeg, Int.reduceEq, Nat.reducePow, Int.reducePow, Nat.reduceEqDiff, decide_true, decide_false, reduceIte, reduceCtorEq, Int.reduceBEq, Int.reduceBNe, bne_self_eq_false, Int.cast_ofNat_Int, Bool.not_true, Bool.not_false, IntKind.bits]
  by_cases d1 : f < t
  · have w1 := wrapI (a := t - f) (by omega) (by omega)
    obtain ⟨v3, G3, hE, hv3, hgr, hw3⟩ := slat_app2 (G := hp H []) (b := 16) (ys := [spV (f, t - f)]) (slat_hp hsl []) (by rw [hp_nil]; exact hn) (sps_len out) (sps_one [(f, t - f)]) (by simp only [List.length_map, List.length_singleton]; omega) (by rw [hp_nil]; exact hw) (fun n => sps_u n out) (fun n => sps_u n [(f, t - f)])
    rw [spV_is] at hE
    rw [hp_nil] at hgr
    have hn3 : H.next ≤ G3.next := hgr.next
    have hg32 : G3.get oid = some (.row 27 0 [v]) := (hgr.old oid h2).trans hg2
    have hl32 := G3.lt hg32
    obtain ⟨x1, x2, x3⟩ := slat_flat hv3
    simp (maxSteps := 4000000) (disch := (first | omega | (simp only [set_next, List.length_append, List.length_cons, List.length_nil, List.length_take, List.length_drop, List.length_map, List.length_set, List.length_replicate]; omega) | (simp only [set_next, ne_eq, reduceCtorEq, not_false_eq_true]))) only [hg1, hg2, d1, w1, hE, hg32, x1, x2, x3, go_sem, Nat.reduceLeDiff, Nat.reduceAdd, Nat.reduceSub, Nat.reduceMul, Nat.reduceLT, Int.reduceLT, Int.reduceLE, Int.reduceAdd, Int.reduceSub, Int.reduceMul, Int.reduceToNat, Int.reduceNeg, Int.reduceEq, Nat.reducePow, Int.reducePow, Nat.reduceEqDiff, decide_true, decide_false, reduceIte, reduceCtorEq, Int.reduceBEq, Int.reduceBNe, bne_self_eq_false, Int.cast_ofNat_Int, Bool.not_true, Bool.not_false, IntKind.bits, w_nat, w_lit, w_add, w_addl, w_ladd, w_sub, w_subl, w_lsub, w_mul, w_mull, w_lmul, t_div, t_divl, t_mod, t_modl, i_lt, i_ltl, i_llt, i_le, i_lel, i_lle, i_eq, i_eql, i_leq, Nat.zero_le, d_beq, d_bne, d_bytes, byte_at, Int.toNat_natCast, toNat_lit, decide_eq_true, decide_eq_false, if_pos, if_neg, slA_len, slA_idx, slA_cells, flat_slA, one_slA, cells_slA, map_mid, strV_is, hp_get1, hp_get2, hp_get3, hp_set1, hp_set2, hp_set3, hp_old, hp_sold, set_got, set_set, set_next, set_other, bytesL, bytes_all, List.length_map, aapp_nils, aapp_wr, List.flatMap_cons, List.flatMap_nil, Nat.mul_one]
    rw [hp_nil]
    have hvn : ∀ gen off len sz, v3 ≠ .wr oid gen off len sz := slat_nid hv3 h2
    have hwf : (G3.set oid (.row 27 0 [v3])).within G3.next := within_set hw3 (fun c hc => by
      rw [List.mem_singleton] at hc
      rw [hc]
      exact slat_under hv3)
    refine aret_full (G := G3.set oid (.row 27 0 [v3])) hn3 hwf ?_ (hyes d1 v3 _ ⟨(set_other h3).trans ((hgr.old fid h1).trans hg1), set_got hl32, ?_, hwf⟩ hn3 (fun i o hi hio hiv => (set_other hio).trans (hgr.other i o hi hiv)) (fun i hi hio => (set_other hio).trans (hgr.old i hi)))
    · exact .tup _ (fun x hx => nomatch hx)
    · rw [List.map_append]
      rcases hv3 with q | ⟨id, gen, q1, q2, q3⟩
      · exact .inl q
      · exact .inr ⟨id, gen, q1, q2, (set_other (by omega)).trans q3⟩
  · simp (maxSteps := 4000000) (disch := (first | omega | (simp only [set_next, List.length_append, List.length_cons, List.length_nil, List.length_take, List.length_drop, List.length_map, List.length_set, List.length_replicate]; omega) | (simp only [set_next, ne_eq, reduceCtorEq, not_false_eq_true]))) only [hg1, hg2, d1, go_sem, Nat.reduceLeDiff, Nat.reduceAdd, Nat.reduceSub, Nat.reduceMul, Nat.reduceLT, Int.reduceLT, Int.reduceLE, Int.reduceAdd, Int.reduceSub, Int.reduceMul, Int.reduceToNat, Int.reduceNeg, Int.reduceEq, Nat.reducePow, Int.reducePow, Nat.reduceEqDiff, decide_true, decide_false, reduceIte, reduceCtorEq, Int.reduceBEq, Int.reduceBNe, bne_self_eq_false, Int.cast_ofNat_Int, Bool.not_true, Bool.not_false, IntKind.bits, w_nat, w_lit, w_add, w_addl, w_ladd, w_sub, w_subl, w_lsub, w_mul, w_mull, w_lmul, t_div, t_divl, t_mod, t_modl, i_lt, i_ltl, i_llt, i_le, i_lel, i_lle, i_eq, i_eql, i_leq, Nat.zero_le, d_beq, d_bne, d_bytes, byte_at, Int.toNat_natCast, toNat_lit, decide_eq_true, decide_eq_false, if_pos, if_neg, slA_len, slA_idx, slA_cells, flat_slA, one_slA, cells_slA, map_mid, strV_is, hp_get1, hp_get2, hp_get3, hp_set1, hp_set2, hp_set3, hp_old, hp_sold, set_got, set_set, set_next, set_other, bytesL, bytes_all, List.length_map, aapp_nils, aapp_wr, List.flatMap_cons, List.flatMap_nil, Nat.mul_one]
    rw [hp_nil]
    exact aret_full (Nat.le_refl _) hs (.tup _ (fun x hx => nomatch hx)) (hno d1)
theorem Free_a {k : Nat} {l : List (Int × Int)} (hn : l.length ≤ 10000) (h : ∀ k F, FreeOf l F → F.length ≤ l.length + 2 → K (slA k 2 (F.map spV)) H) : (ACalls Try.prog) 28 [slA k 2 (l.map spV)] H K := by
  refine acalls_go mo t28 (fun hs hu => ?_)
  simp only [c28, go_sem, Nat.reduceLeDiff, Nat.reduceAdd, Nat.reduceSub, Nat.reduceMul, Nat.reduceLT, Int.reduceLT, Int.reduceLE, Int.reduceAdd, Int.reduceSub, Int.reduceMul, Int.reduceToNat, Int.reduceNeg, Int.reduceEq, Nat.reducePow, Int.reducePow, Nat.reduceEqDiff, decide_true, decide_false, reduceIte, reduceCtorEq, Int.reduceBEq, Int.reduceBNe, bne_self_eq_false, Int.cast_ofNat_Int, Bool.not_true, Bool.not_false, IntKind.bits]
  refine sclone_a (by omega) (fun v0 G1 hv0 hG1 hw1 => ?_)
  rw [hp_nil] at hv0 hG1
  obtain ⟨v1, G2, hE, hv1, hgr, hw2⟩ := slat_app2 (G := hp G1 []) (b := 16) (ys := [spV (0, 4096)]) (slat_hp hv0 []) (by rw [hp_nil]; exact hG1.next) (sps_len l) (sps_one [(0, 4096)]) (by simp only [List.length_map, List.length_singleton]; omega) (by rw [hp_nil]; exact hw1) (fun n => sps_u n l) (fun n => sps_u n [(0, 4096)])
  rw [spV_is] at hE
  rw [hp_nil] at hgr
  have hP2 : Past H G2 := ⟨Nat.le_trans hG1.next hgr.next, fun i hi => (hgr.old i hi).trans (hG1.get i hi)⟩
  have e1 : l.map spV ++ [spV (0, 4096)] = (l ++ [(0, 4096)]).map spV := by rw [List.map_append]; rfl
  rw [e1] at hv1
  rw [← hp_nil (H := G1)]
  simp (maxSteps := 4000000) (disch := (first | omega | (simp only [set_next, List.length_append, List.length_cons, List.length_nil, List.length_take, List.length_drop, List.length_map, List.length_set, List.length_replicate]; omega) | (simp only [set_next, ne_eq, reduceCtorEq, not_false_eq_true]))) only [hE, go_sem, Nat.reduceLeDiff, Nat.reduceAdd, Nat.reduceSub, Nat.reduceMul, Nat.reduceLT, Int.reduceLT, Int.reduceLE, Int.reduceAdd, Int.reduceSub, Int.reduceMul, Int.reduceToNat, Int.reduceNeg, Int.reduceEq, Nat.reducePow, Int.reducePow, Nat.reduceEqDiff, decide_true, decide_false, reduceIte, reduceCtorEq, Int.reduceBEq, Int.reduceBNe, bne_self_eq_false, Int.cast_ofNat_Int, Bool.not_true, Bool.not_false, IntKind.bits, w_nat, w_lit, w_add, w_addl, w_ladd, w_sub, w_subl, w_lsub, w_mul, w_mull, w_lmul, t_div, t_divl, t_mod, t_modl, i_lt, i_ltl, i_llt, i_le, i_lel, i_lle, i_eq, i_eql, i_leq, Nat.zero_le, d_beq, d_bne, d_bytes, byte_at, Int.toNat_natCast, toNat_lit, decide_eq_true, decide_eq_false, if_pos, if_neg, slA_len, slA_idx, slA_cells, flat_slA, one_slA, cells_slA, map_mid, strV_is, hp_get1, hp_get2, hp_get3, hp_set1, hp_set2, hp_set3, hp_old, hp_sold, set_got, set_set, set_next, set_other, bytesL, bytes_all, List.length_map, aapp_nils, aapp_wr, List.flatMap_cons, List.flatMap_nil, Nat.mul_one]
  have hn2 : (hp G2 [.row 27 0 [.nils], .row 3 0 [.int .i64 0]]).next = G2.next + 2 := rfl
  obtain ⟨G3, kk, hSh, hn3, ho3, hk3⟩ := slat_shut2 (slat_hp hv1 [.row 27 0 [.nils], .row 3 0 [.int .i64 0]]) (sps_len (l ++ [(0, 4096)]))
  have hvid : ∀ j, G2.next ≤ j → ∀ gen off len sz, v1 ≠ .wr j gen off len sz := fun j hj gen off len sz e => by
    rcases hv1 with ⟨rfl, _⟩ | ⟨id, gen', rfl, hid, hg⟩
    · cases e
    · cases e
      have := G2.lt hg
      omega
  have hb0 : G3.get (G2.next + 0) = some (.row 27 0 [.nils]) := hk3 _ _ (hp_get _ _ 0) (hvid _ (by omega))
  have hb1 : G3.get (G2.next + 1) = some (.row 3 0 [.int .i64 0]) := hk3 _ _ (hp_get _ _ 1) (hvid _ (by omega))
  rw [hn2] at hn3
  have hP3 : Past H G3 := ⟨by have := hP2.next; omega, fun i hi => (ho3 i hi).trans ((past_hp hP2 _).get i hi)⟩
  refine acalls_shut (pre := []) hSh ?_
  refine acalls_within (fun hw3 => ?_)
  refine Join_a (by rw [List.length_append, List.length_singleton]; omega) (fun k2 Jn hJ hJl => ?_)
  rw [List.length_append, List.length_singleton] at hJl
  rw [← hp_nil (H := G3)]
  have hP2n := hP2.next
  simp (maxSteps := 4000000) (disch := (first | omega | (simp only [set_next, List.length_append, List.length_cons, List.length_nil, List.length_take, List.length_drop, List.length_map, List.length_set, List.length_replicate]; omega) | (simp only [set_next, ne_eq, reduceCtorEq, not_false_eq_true]))) only [go_sem, Nat.reduceLeDiff, Nat.reduceAdd, Nat.reduceSub, Nat.reduceMul, Nat.reduceLT, Int.reduceLT, Int.reduceLE, Int.reduceAdd, Int.reduceSub, Int.reduceMul, Int.reduceToNat, Int.reduceNeg, Int.reduceEq, Nat.reducePow, Int.reducePow, Nat.reduceEqDiff, decide_true, decide_false, reduceIte, reduceCtorEq, Int.reduceBEq, Int.reduceBNe, bne_self_eq_false, Int.cast_ofNat_Int, Bool.not_true, Bool.not_false, IntKind.bits, w_nat, w_lit, w_add, w_addl, w_ladd, w_sub, w_subl, w_lsub, w_mul, w_mull, w_lmul, t_div, t_divl, t_mod, t_modl, i_lt, i_ltl, i_llt, i_le, i_lel, i_lle, i_eq, i_eql, i_leq, Nat.zero_le, d_beq, d_bne, d_bytes, byte_at, Int.toNat_natCast, toNat_lit, decide_eq_true, decide_eq_false, if_pos, if_neg, slA_len, slA_idx, slA_cells, flat_slA, one_slA, cells_slA, map_mid, strV_is, hp_get1, hp_get2, hp_get3, hp_set1, hp_set2, hp_set3, hp_old, hp_sold, set_got, set_set, set_next, set_other, bytesL, bytes_all, List.length_map, aapp_nils, aapp_wr, List.flatMap_cons, List.flatMap_nil, Nat.mul_one]
  refine go_loopS mono (σ := AHeap × AV × List (Int × Int) × Int × Nat) (fun z => [(18, .int .i64 (z.2.2.2.2 : Int))]) (fun z => hp z.1 []) (fun z => Past H z.1 ∧ G3.next ≤ z.1.next ∧ FreeAt G3.next (G2.next + 1) (G2.next + 0) z.1 z.2.2.2.1 z.2.1 z.2.2.1 ∧ z.2.2.2.2 ≤ Jn.length ∧ z.2.2.1.length ≤ z.2.2.2.2 ∧ GInv (Jn.take z.2.2.2.2) z.2.2.2.1 z.2.2.1) (fun z => Jn.length - z.2.2.2.2) (G3, .nils, [], 0, 0) ?_ rfl ⟨hP3, Nat.le_refl _, ⟨hb1, hb0, slat_nil, hw3⟩, Nat.zero_le _, Nat.zero_le _, g_start⟩ (fun z hz J hJ2 => ?_)
  · (simp only [blurR_nil, blurR_some, blurR_none, blurC_region, blurC_regionN, blurC_fregion, blurT_nil, blurT_cons, blurC_seq, blurC_both, blurC_cond, blurC_block, blurC_loop, blurC_skip, blurC_exit, blurC_ret, tellS_nil, tellS_cons, List.set_cons_zero, List.set_cons_succ, tops_zero, tops_succ]; repeat first | exact forget_nil | apply forget_keep | apply forget_top)
  obtain ⟨G, v, out, f, i⟩ := z
  obtain ⟨hG, hGn, hF, hil, hol, hI⟩ := hz
  simp only at hG hGn hF hil hol hI
  have hfl := hF.frm
  have hlf := G.lt hF.frm
  have hlo := G.lt hF.box
  simp only [blurR_nil, blurR_some, blurR_none, blurC_region, blurC_regionN, blurC_fregion, blurT_nil, blurT_cons, blurC_seq, blurC_both, blurC_cond, blurC_block, blurC_loop, blurC_skip, blurC_exit, blurC_ret, tellS_nil, tellS_cons, List.set_cons_zero, List.set_cons_succ, tops_zero, tops_succ]
  by_cases d1 : i < Jn.length
  · have ha := spE_at d1
    have hxb := hJ.1.1 _ (sp_mem d1)
    have hord := sep_ord hJ.1 d1
    have htk := sp_step d1
    have hfx : f ≤ (Jn.getD i (0, 0)).1 := by
      rcases hI.here with e | ⟨p, hp, e⟩
      · have := hxb.1
        omega
      · have := hord p hp
        omega
    have hJ3 := fun (G2' : AHeap) (v2 : AV) (out2 : List (Int × Int)) (f2 : Int) p1 p2 (p3 : FreeAt G3.next (G2.next + 1) (G2.next + 0) G2' f2 v2 out2) (p5 : out2.length ≤ i + 1) (p6 : GInv (Jn.take i ++ [Jn.getD i (0, 0)]) f2 out2) a' => hJ2 (G2', v2, out2, f2, i + 1) a' ⟨p1, p2, p3, d1, p5, by show GInv (Jn.take (i + 1)) f2 out2; rw [htk]; exact p6⟩ (by show Jn.length - (i + 1) < Jn.length - i; omega)
    clear hJ2
    generalize Jn.getD i (0, 0) = x at *
    have hI1 := g_step1 hI hxb hfx
    have hI2 := g_step2 hI hxb hfx
    unfold spB at hxb
    simp (maxSteps := 4000000) (disch := (first | omega | (simp only [set_next, List.length_append, List.length_cons, List.length_nil, List.length_take, List.length_drop, List.length_map, List.length_set, List.length_replicate]; omega) | (simp only [set_next, ne_eq, reduceCtorEq, not_false_eq_true]))) only [ha, spV_cells, go_sem, Nat.reduceLeDiff, Nat.reduceAdd, Nat.reduceSub, Nat.reduceMul, Nat.reduceLT, Int.reduceLT, Int.reduceLE, Int.reduceAdd, Int.reduceSub, Int.reduceMul, Int.reduceToNat, Int.reduceNeg, Int.reduceEq, Nat.reducePow, Int.reducePow, Nat.reduceEqDiff, decide_true, decide_false, reduceIte, reduceCtorEq, Int.reduceBEq, Int.reduceBNe, bne_self_eq_false, Int.cast_ofNat_Int, Bool.not_true, Bool.not_false, IntKind.bits, w_nat, w_lit, w_add, w_addl, w_ladd, w_sub, w_subl, w_lsub, w_mul, w_mull, w_lmul, t_div, t_divl, t_mod, t_modl, i_lt, i_ltl, i_llt, i_le, i_lel, i_lle, i_eq, i_eql, i_leq, Nat.zero_le, d_beq, d_bne, d_bytes, byte_at, Int.toNat_natCast, toNat_lit, decide_eq_true, decide_eq_false, if_pos, if_neg, slA_len, slA_idx, slA_cells, flat_slA, one_slA, cells_slA, map_mid, strV_is, hp_get1, hp_get2, hp_get3, hp_set1, hp_set2, hp_set3, hp_old, hp_sold, set_got, set_set, set_next, set_other, bytesL, bytes_all, List.length_map, aapp_nils, aapp_wr, List.flatMap_cons, List.flatMap_nil, Nat.mul_one]
    have hm : (if (65536 : Int) < x.1 then 65536 else x.1) = min x.1 65536 := by
      by_cases hc : (65536 : Int) < x.1
      · rw [if_pos hc]
        omega
      · rw [if_neg hc]
        omega
    have w1 := wrapI (a := x.1 + x.2) (by omega) (by omega)
    have hl0 := hI.low
    have hh0 := hI.high
    have hx0 : (hp G [.row 64 0 [.int .i64 x.1, .int .i64 x.2]]).get (G.next + 0) = some (.row 64 0 [.int .i64 x.1, .int .i64 x.2]) := hp_get _ _ 0
    have hvx : ∀ gen off len sz, v ≠ .wr (G.next + 0) gen off len sz := fun gen off len sz e => by
      rcases hF.sl with ⟨rfl, _⟩ | ⟨id, gen', rfl, hid, hg⟩
      · cases e
      · cases e
        have := G.lt hg
        omega
    have hF2 : FreeAt G3.next (G2.next + 1) (G2.next + 0) (hp G [.row 64 0 [.int .i64 x.1, .int .i64 x.2]]) f v out := ⟨(hp_old hlf).trans hF.frm, (hp_old hlo).trans hF.box, slat_hp hF.sl _, within_hp2 hF.wit (sps_rowu x)⟩
    rw [hm]
    refine gap_a hF2 (by omega) (by omega) (by omega) (by show G3.next ≤ G.next + 1; omega) (by omega) ⟨hl0, hh0⟩ (by omega) (fun hlt v' G' hF' hn' hoth hold => ?_) (fun hlt => ?_)
    · have hgx := hoth _ _ hx0 (by omega) hvx
      have hgf := hF'.frm
      have hlf2 := G'.lt hgf
      have hlx2 := G'.lt hgx
      have hP' : Past H G' := ⟨by have := hG.next; have : G.next + 1 ≤ G'.next := hn'; omega, fun i hi => (hold i (by omega) (by omega)).trans ((past_hp hG _).get i hi)⟩
      rw [← hp_nil (H := G')]
      simp (maxSteps := 4000000) (disch := (first | omega | (simp only [set_next, List.length_append, List.length_cons, List.length_nil, List.length_take, List.length_drop, List.length_map, List.length_set, List.length_replicate]; omega) | (simp only [set_next, ne_eq, reduceCtorEq, not_false_eq_true]))) only [hgx, hgf, w1, go_sem, Nat.reduceLeDiff, Nat.reduceAdd, Nat.reduceSub, Nat.reduceMul, Nat.reduceLT, Int.reduceLT, Int.reduceLE, Int.reduceAdd, Int.reduceSub, Int.reduceMul, Int.reduceToNat, Int.reduceNeg, Int.reduceEq, Nat.reducePow, Int.reducePow, Nat.reduceEqDiff, decide_true, decide_false, reduceIte, reduceCtorEq, Int.reduceBEq, Int.reduceBNe, bne_self_eq_false, Int.cast_ofNat_Int, Bool.not_true, Bool.not_false, IntKind.bits, w_nat, w_lit, w_add, w_addl, w_ladd, w_sub, w_subl, w_lsub, w_mul, w_mull, w_lmul, t_div, t_divl, t_mod, t_modl, i_lt, i_ltl, i_llt, i_le, i_lel, i_lle, i_eq, i_eql, i_leq, Nat.zero_le, d_beq, d_bne, d_bytes, byte_at, Int.toNat_natCast, toNat_lit, decide_eq_true, decide_eq_false, if_pos, if_neg, slA_len, slA_idx, slA_cells, flat_slA, one_slA, cells_slA, map_mid, strV_is, hp_get1, hp_get2, hp_get3, hp_set1, hp_set2, hp_set3, hp_old, hp_sold, set_got, set_set, set_next, set_other, bytesL, bytes_all, List.length_map, aapp_nils, aapp_wr, List.flatMap_cons, List.flatMap_nil, Nat.mul_one]
      exact hJ3 (G'.set (G2.next + 1) (.row 3 0 [.int .i64 (x.1 + x.2)])) v' (out ++ [(f, min x.1 65536 - f)]) (x.1 + x.2) (past_set hP' (by omega) _) (by have : G.next + 1 ≤ G'.next := hn'; show G3.next ≤ G'.next; omega) (free_setf hF' (by omega) (by omega)) (by rw [List.length_append, List.length_singleton]; omega) (hI1 hlt) _ (by (simp only [blurR_nil, blurR_some, blurR_none, blurC_region, blurC_regionN, blurC_fregion, blurT_nil, blurT_cons, blurC_seq, blurC_both, blurC_cond, blurC_block, blurC_loop, blurC_skip, blurC_exit, blurC_ret, tellS_nil, tellS_cons, List.set_cons_zero, List.set_cons_succ, tops_zero, tops_succ]; repeat first | exact forget_nil | apply forget_keep | apply forget_top))
    · have hgf := hF2.frm
      have hlf2 := (hp G [.row 64 0 [.int .i64 x.1, .int .i64 x.2]]).lt hgf
      have hlx2 := (hp G [.row 64 0 [.int .i64 x.1, .int .i64 x.2]]).lt hx0
      have hP' : Past H (hp G [.row 64 0 [.int .i64 x.1, .int .i64 x.2]]) := past_hp hG _
      have hn' : G.next ≤ (hp G [.row 64 0 [.int .i64 x.1, .int .i64 x.2]]).next := Nat.le_add_right _ _
      generalize hp G [.row 64 0 [.int .i64 x.1, .int .i64 x.2]] = G' at *
      rw [← hp_nil (H := G')]
      simp (maxSteps := 4000000) (disch := (first | omega | (simp only [set_next, List.length_append, List.length_cons, List.length_nil, List.length_take, List.length_drop, List.length_map, List.length_set, List.length_replicate]; omega) | (simp only [set_next, ne_eq, reduceCtorEq, not_false_eq_true]))) only [hx0, hgf, w1, go_sem, Nat.reduceLeDiff, Nat.reduceAdd, Nat.reduceSub, Nat.reduceMul, Nat.reduceLT, Int.reduceLT, Int.reduceLE, Int.reduceAdd, Int.reduceSub, Int.reduceMul, Int.reduceToNat, Int.reduceNeg, Int.reduceEq, Nat.reducePow, Int.reducePow, Nat.reduceEqDiff, decide_true, decide_false, reduceIte, reduceCtorEq, Int.reduceBEq, Int.reduceBNe, bne_self_eq_false, Int.cast_ofNat_Int, Bool.not_true, Bool.not_false, IntKind.bits, w_nat, w_lit, w_add, w_addl, w_ladd, w_sub, w_subl, w_lsub, w_mul, w_mull, w_lmul, t_div, t_divl, t_mod, t_modl, i_lt, i_ltl, i_llt, i_le, i_lel, i_lle, i_eq, i_eql, i_leq, Nat.zero_le, d_beq, d_bne, d_bytes, byte_at, Int.toNat_natCast, toNat_lit, decide_eq_true, decide_eq_false, if_pos, if_neg, slA_len, slA_idx, slA_cells, flat_slA, one_slA, cells_slA, map_mid, strV_is, hp_get1, hp_get2, hp_get3, hp_set1, hp_set2, hp_set3, hp_old, hp_sold, set_got, set_set, set_next, set_other, bytesL, bytes_all, List.length_map, aapp_nils, aapp_wr, List.flatMap_cons, List.flatMap_nil, Nat.mul_one]
      exact hJ3 (G'.set (G2.next + 1) (.row 3 0 [.int .i64 (x.1 + x.2)])) v out (x.1 + x.2) (past_set hP' (by omega) _) (by show G3.next ≤ G'.next; omega) (free_setf hF2 (by omega) (by omega)) (by omega) (hI2 hlt) _ (by (simp only [blurR_nil, blurR_some, blurR_none, blurC_region, blurC_regionN, blurC_fregion, blurT_nil, blurT_cons, blurC_seq, blurC_both, blurC_cond, blurC_block, blurC_loop, blurC_skip, blurC_exit, blurC_ret, tellS_nil, tellS_cons, List.set_cons_zero, List.set_cons_succ, tops_zero, tops_succ]; repeat first | exact forget_nil | apply forget_keep | apply forget_top))
  · have hi : i = Jn.length := by omega
    rw [hi, List.take_length] at hI
    have hl0 := hI.low
    have hh0 := hI.high
    simp (maxSteps := 4000000) (disch := (first | omega | (simp only [set_next, List.length_append, List.length_cons, List.length_nil, List.length_take, List.length_drop, List.length_map, List.length_set, List.length_replicate]; omega) | (simp only [set_next, ne_eq, reduceCtorEq, not_false_eq_true]))) only [go_sem, Nat.reduceLeDiff, Nat.reduceAdd, Nat.reduceSub, Nat.reduceMul, Nat.reduceLT, Int.reduceLT, Int.reduceLE, Int.reduceAdd, Int.reduceSub, Int.reduceMul, Int.reduceToNat, Int.reduceNeg, Int.reduceEq, Nat.reducePow, Int.reducePow, Nat.reduceEqDiff, decide_true, decide_false, reduceIte, reduceCtorEq, Int.reduceBEq, Int.reduceBNe, bne_self_eq_false, Int.cast_ofNat_Int, Bool.not_true, Bool.not_false, IntKind.bits, w_nat, w_lit, w_add, w_addl, w_ladd, w_sub, w_subl, w_lsub, w_mul, w_mull, w_lmul, t_div, t_divl, t_mod, t_modl, i_lt, i_ltl, i_llt, i_le, i_lel, i_lle, i_eq, i_eql, i_leq, Nat.zero_le, d_beq, d_bne, d_bytes, byte_at, Int.toNat_natCast, toNat_lit, decide_eq_true, decide_eq_false, if_pos, if_neg, slA_len, slA_idx, slA_cells, flat_slA, one_slA, cells_slA, map_mid, strV_is, hp_get1, hp_get2, hp_get3, hp_set1, hp_set2, hp_set3, hp_old, hp_sold, set_got, set_set, set_next, set_other, bytesL, bytes_all, List.length_map, aapp_nils, aapp_wr, List.flatMap_cons, List.flatMap_nil, Nat.mul_one]
    rw [hp_nil]
    refine gap_a hF (by omega) (by omega) (by omega) hGn (by omega) ⟨hl0, hh0⟩ (by omega) (fun hlt v' G' hF' hn' hoth hold => ?_) (fun hlt => ?_)
    · have hgo := hF'.box
      have hlo2 := G'.lt hgo
      have hP' : Past H G' := ⟨by have := hG.next; omega, fun i hi => (hold i (by omega) (by omega)).trans (hG.get i hi)⟩
      rw [← hp_nil (H := G')]
      simp (maxSteps := 4000000) (disch := (first | omega | (simp only [set_next, List.length_append, List.length_cons, List.length_nil, List.length_take, List.length_drop, List.length_map, List.length_set, List.length_replicate]; omega) | (simp only [set_next, ne_eq, reduceCtorEq, not_false_eq_true]))) only [hgo, go_sem, Nat.reduceLeDiff, Nat.reduceAdd, Nat.reduceSub, Nat.reduceMul, Nat.reduceLT, Int.reduceLT, Int.reduceLE, Int.reduceAdd, Int.reduceSub, Int.reduceMul, Int.reduceToNat, Int.reduceNeg, Int.reduceEq, Nat.reducePow, Int.reducePow, Nat.reduceEqDiff, decide_true, decide_false, reduceIte, reduceCtorEq, Int.reduceBEq, Int.reduceBNe, bne_self_eq_false, Int.cast_ofNat_Int, Bool.not_true, Bool.not_false, IntKind.bits, w_nat, w_lit, w_add, w_addl, w_ladd, w_sub, w_subl, w_lsub, w_mul, w_mull, w_lmul, t_div, t_divl, t_mod, t_modl, i_lt, i_ltl, i_llt, i_le, i_lel, i_lle, i_eq, i_eql, i_leq, Nat.zero_le, d_beq, d_bne, d_bytes, byte_at, Int.toNat_natCast, toNat_lit, decide_eq_true, decide_eq_false, if_pos, if_neg, slA_len, slA_idx, slA_cells, flat_slA, one_slA, cells_slA, map_mid, strV_is, hp_get1, hp_get2, hp_get3, hp_set1, hp_set2, hp_set3, hp_old, hp_sold, set_got, set_set, set_next, set_other, bytesL, bytes_all, List.length_map, aapp_nils, aapp_wr, List.flatMap_cons, List.flatMap_nil, Nat.mul_one]
      rw [hp_nil]
      exact slat_ret (slat_low hF'.sl (by omega)) (sps_len _) hP' hs (sps_u _ _) (fun k => h k _ (g_end1 hJ hI hlt) (by rw [List.length_append, List.length_singleton]; omega))
    · have hgo := hF.box
      rw [← hp_nil (H := G)]
      simp (maxSteps := 4000000) (disch := (first | omega | (simp only [set_next, List.length_append, List.length_cons, List.length_nil, List.length_take, List.length_drop, List.length_map, List.length_set, List.length_replicate]; omega) | (simp only [set_next, ne_eq, reduceCtorEq, not_false_eq_true]))) only [hgo, go_sem, Nat.reduceLeDiff, Nat.reduceAdd, Nat.reduceSub, Nat.reduceMul, Nat.reduceLT, Int.reduceLT, Int.reduceLE, Int.reduceAdd, Int.reduceSub, Int.reduceMul, Int.reduceToNat, Int.reduceNeg, Int.reduceEq, Nat.reducePow, Int.reducePow, Nat.reduceEqDiff, decide_true, decide_false, reduceIte, reduceCtorEq, Int.reduceBEq, Int.reduceBNe, bne_self_eq_false, Int.cast_ofNat_Int, Bool.not_true, Bool.not_false, IntKind.bits, w_nat, w_lit, w_add, w_addl, w_ladd, w_sub, w_subl, w_lsub, w_mul, w_mull, w_lmul, t_div, t_divl, t_mod, t_modl, i_lt, i_ltl, i_llt, i_le, i_lel, i_lle, i_eq, i_eql, i_leq, Nat.zero_le, d_beq, d_bne, d_bytes, byte_at, Int.toNat_natCast, toNat_lit, decide_eq_true, decide_eq_false, if_pos, if_neg, slA_len, slA_idx, slA_cells, flat_slA, one_slA, cells_slA, map_mid, strV_is, hp_get1, hp_get2, hp_get3, hp_set1, hp_set2, hp_set3, hp_old, hp_sold, set_got, set_set, set_next, set_other, bytesL, bytes_all, List.length_map, aapp_nils, aapp_wr, List.flatMap_cons, List.flatMap_nil, Nat.mul_one]
      rw [hp_nil]
      exact slat_ret (slat_low hF.sl (by omega)) (sps_len _) hG hs (sps_u _ _) (fun k => h k _ (g_end2 hJ hI hlt) (by omega))
end
end Go.Proofs.Ytdknpnmdjjmapaa.AL

