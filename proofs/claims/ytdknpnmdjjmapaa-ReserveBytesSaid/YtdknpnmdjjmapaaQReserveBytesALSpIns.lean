/- One span put into a slice of one's own: the call, told of the slice. -/
import Derived.Test.YtdknpnmdjjmapaaQReserveBytesALInsG
import Derived.Test.YtdknpnmdjjmapaaQReserveBytesALDRes
set_option linter.unusedSimpArgs false
set_option linter.unusedVariables false
set_option maxRecDepth 100000
set_option maxHeartbeats 16000000
namespace Go.Proofs.Ytdknpnmdjjmapaa.AL
open Go Go.Proofs
attribute [local go_sem] go_seq go_skip go_region go_regionN go_fregion rgF_some go_cond go_block go_exit go_ret nxt_nil nxt_code nxt_blk nxt_cut leave_nil leave_code leave_cut leave_blk rtn_nil rtn_code rtn_blk rtn_cut cnd_t cnd_f rgn_nil rgY_some rgY_none rgH_some rgP_some retTo_is rgV_func grd_und grd_tt grd_ff grd_tf grd_ft rgn_q rgn_alloc rgn_box rgn_store rgn_lit rgn_litw litCells_nil litCells_cons rgn_app rgn_copy rgn_mk rgn_s2b rgn_call rgn_callv rgn_stop rgn_slice3 aslice3 rgn_slice3l aslice3l rgn_appz rgn_clear rgn_range rgn_next arange acap rgn_put rgn_mkmap rgn_lookup rgn_mapup alookup_nilm alookup_map amapup_map afound_ok afound_no rgn_c rgn_cv qclV_func aloadr rgn_guard post_ret post_normal retY_some ares aresL ares1 AX.ev aput List.getD_cons_zero List.getD_cons_succ List.set_cons_zero List.set_cons_succ List.map_cons List.map_nil aq abin aint astr abeq aconv asame aextract alenS alenL_nils alenL_emp alenL_imm alenL_wr alenL_wc aun apart aload afieldAddr afield aidxSl_wr aidxSl_wc aidxSl_imm aidxPt aidxStr aidxArr abound asliceStr asliceSl asliceArr abest anonil afill astore acells_nils acells_emp acells_imm acells_wr acells_wc acells_str acopy litAll amk as2b anil nilOf aseq aeqs aeqv fits fit1 hp_next hp_push hp_get hp_set List.length_cons List.length_nil List.getElem?_cons_zero List.getElem?_cons_succ List.cons_append List.nil_append List.append_nil List.take_succ_cons List.take_zero List.drop_succ_cons List.drop_zero List.all_cons List.all_nil Option.map_some Option.some.injEq Bool.and_true Bool.true_and Bool.false_eq_true if_true if_false ite_true ite_false Bool.and_self true_and and_true and_self Nat.zero_add Nat.le_refl Int.toNat_natCast beq_self_eq_true eq_self tops_zero tops_succ Int.natCast_nonneg List.take_nil List.drop_nil Option.map_none flat_bool one_bool cells_bool flat_int one_int cells_int flat_str one_str cells_str flat_nilp one_nilp cells_nilp flat_ptr one_ptr cells_ptr flat_nils one_nils cells_nils flat_imm one_imm cells_imm flat_wr one_wr cells_wr flat_wc one_wc cells_wc flat_func one_func cells_func flat_nilf one_nilf cells_nilf flat_map one_map cells_map flat_nilm one_nilm cells_nilm flat_iface one_iface cells_iface flat_nili one_nili cells_nili flat_rd one_rd cells_rd flat_emp one_emp cells_emp flat_byteV one_byteV cells_byteV flat_agg cells_agg one_agg B_size B_list B_ext B_toList B_app List.take_length Int.le_refl
attribute [-go_sem] acopy
section
variable {H : AHeap} {e : TypeId} {gen id idv n cap sz b i : Nat} {C ycs : List AV}
theorem overlapsS_a {cv cs : List AV} {gv ov nv off len : Nat} {K : AV → AHeap → Prop} (hv : H.get idv = some (.row 64 gv cv)) (hg : H.get id = some (.row 64 gen cs)) (hne : idv ≠ id) (hcv : ov < cv.length) (hcs : 0 < cs.length) (h : K (.bool false) H) :
    (ACalls Try.prog) 79 [.wr idv gv ov nv sz, .wc id gen off len cap sz] H K :=
  acalls_extq h fun g w vs hS hR => by
    obtain ⟨u, v, rfl, r1, r2⟩ := reps_two hR
    obtain ⟨b1, c1, e1, n1, rfl, p1, p2, p3, p4, p5⟩ := r1.wr_inv
    obtain ⟨b2, e2, n2, rfl, q1, q2, q3, q4, q5⟩ := r2.wc_inv
    obtain ⟨b1', cur1, lo1, hi1, s1, s2, s3, s4, s5⟩ := hS.live idv _ hv
    rw [p1] at s1
    obtain rfl := Option.some.inj s1
    obtain ⟨b2', cur2, lo2, hi2, t1, t2, t3, t4, t5⟩ := hS.live id _ hg
    rw [q1] at t1
    obtain rfl := Option.some.inj t1
    have hb : b1 ≠ b2 := fun q => hne (hS.inj idv id _ _ b1 hv hg p1 (by rw [q]; exact q1))
    have hn1 : n1 = cur1.size := by
      unfold World.shape? at p2
      rw [s2] at p2
      simp only [Option.some.injEq, Prod.mk.injEq] at p2
      exact p2.2.symm
    have hn2 : n2 = cur2.size := by
      unfold World.shape? at q2
      rw [t2] at q2
      simp only [Option.some.injEq, Prod.mk.injEq] at q2
      exact q2.2.symm
    have ht : tailN 64 = 1 := by kernel_rfl
    rw [ht] at s3
    have f1 : w.frozen? ⟨b1, ov, none⟩ = false := by
      unfold World.frozen?
      rw [s2]
      have := s3 ov (by omega)
      simpa using fun q => Nat.le_of_not_lt fun q2 => this ⟨q, q2⟩
    have f2 : w.frozen? { block := b1, off := n1 } = false := by
      unfold World.frozen?
      rw [s2]
      have := s3 n1 (by omega)
      simpa using fun q => Nat.le_of_not_lt fun q2 => this ⟨q, q2⟩
    refine ⟨.bool false, ?_, .bool _⟩
    rw [run_callFunc_extern Try.func79 (by kernel_rfl) (by kernel_rfl) (by kernel_rfl) (e := Extern.SlicesOverlaps.overlaps #[27, 27] #[4]) (by kernel_rfl),
      Lib.run_overlaps_apart w 27 4 64 Try.underlying27 2 Try.sizeOf64 ⟨b1, ov, none⟩ ⟨b2, off, none⟩ nv c1 len cap hb e1 e2 n1 n2 p2 q2 (by omega) f1 f2]
    rfl
end
section
variable {H : AHeap} {K : AV → AHeap → Prop}
theorem insertS_wc {id gen idv n cap at_ : Nat} {C ycs : List AV} (hg : H.get id = some (.row 64 gen C)) (hv : H.get idv = some (.row 64 0 ycs)) (hne : idv ≠ id)
    (hy : ycs.length = 2) (h1 : ycs.all AV.one = true) (hC : cap * 2 ≤ C.length) (hold : (C.take (n * 2)).all AV.one = true) (hn : n ≤ cap) (hc : cap ≤ 9223372036854775807) (hnb : n ≤ 1000000) (hat : at_ ≤ n)
    (hroom : ∀ R : List AV, R.take ((n + 1) * 2) = C.take (at_ * 2) ++ ycs ++ (C.take (n * 2)).drop (at_ * 2) → (H.set id (.row 64 gen (R.take ((n + 1) * 2)))).within H.next → K (.wr id gen 0 (n + 1) 2) (H.set id (.row 64 gen (R.take ((n + 1) * 2)))))
    (hgrow : (H.push (.row 64 0 (C.take (at_ * 2) ++ ycs ++ (C.take (n * 2)).drop (at_ * 2)))).within (H.next + 1) → K (.wr H.next 0 0 (n + 1) 2) (H.push (.row 64 0 (C.take (at_ * 2) ++ ycs ++ (C.take (n * 2)).drop (at_ * 2))))) :
    (ACalls Try.prog) 49 [.wc id gen 0 n cap 2, .int .i64 (at_ : Int), .wr idv 0 0 1 2] H K := by
  refine acalls_go mo t49 (fun hs hu => ?_)
  have hlg := H.lt hg
  have hlv := H.lt hv
  simp only [c49, go_sem, Nat.reduceLeDiff, Nat.reduceAdd, Nat.reduceSub, Nat.reduceMul, Nat.reduceLT, Int.reduceLT, Int.reduceLE, Int.reduceAdd, Int.reduceSub, Int.reduceMul, Int.reduceToNat, Int.reduceNeg, Int.reduceEq, Nat.reducePow, Int.reducePow, Nat.reduceEqDiff, decide_true, decide_false, reduceIte, reduceCtorEq, Int.reduceBEq, Int.reduceBNe, bne_self_eq_false, Int.cast_ofNat_Int, Bool.not_true, Bool.not_false, IntKind.bits]
  have hCu := hs id _ hlg hg
  have hYu := hs idv _ hlv hv
  have hall : ∀ (L : List AV), (∀ c ∈ L, c ∈ C ∨ c ∈ ycs) → AllU H.next L := fun L h c hc => (h c hc).elim (hCu c) (hYu c)
  have hpu : ∀ (L : List AV), (∀ c ∈ L, c ∈ C ∨ c ∈ ycs) → (H.push (.row 64 0 L)).within (H.push (.row 64 0 L)).next := fun L h => by
    have hpush : H.push (.row 64 0 L) = hp H [.row 64 0 L] := by
      have := hp_push H [] (.row 64 0 L)
      rw [hp_nil] at this
      exact this
    rw [hpush]
    refine within_hp2 hs (fun o ho => ?_)
    rw [List.mem_singleton] at ho
    subst ho
    exact fun c hc => up_under (Nat.le_succ _) (hall L h c hc)
  simp (maxSteps := 4000000) (disch := (first | omega | (simp only [set_next, List.length_append, List.length_cons, List.length_nil, List.length_take, List.length_drop, List.length_map, List.length_set, List.length_replicate]; omega) | (simp only [set_next, ne_eq, reduceCtorEq, not_false_eq_true]))) only [go_sem, Nat.reduceLeDiff, Nat.reduceAdd, Nat.reduceSub, Nat.reduceMul, Nat.reduceLT, Int.reduceLT, Int.reduceLE, Int.reduceAdd, Int.reduceSub, Int.reduceMul, Int.reduceToNat, Int.reduceNeg, Int.reduceEq, Nat.reducePow, Int.reducePow, Nat.reduceEqDiff, decide_true, decide_false, reduceIte, reduceCtorEq, Int.reduceBEq, Int.reduceBNe, bne_self_eq_false, Int.cast_ofNat_Int, Bool.not_true, Bool.not_false, IntKind.bits, w_nat, w_lit, w_add, w_addl, w_ladd, w_sub, w_subl, w_lsub, w_mul, w_mull, w_lmul, t_div, t_divl, t_mod, t_modl, i_lt, i_ltl, i_llt, i_le, i_lel, i_lle, i_eq, i_eql, i_leq, Nat.zero_le, d_beq, d_bne, d_bytes, byte_at, Int.toNat_natCast, toNat_lit, decide_eq_true, decide_eq_false, if_pos, if_neg, slA_len, slA_idx, slA_cells, flat_slA, one_slA, cells_slA, map_mid, strV_is, hp_get1, hp_get2, hp_get3, hp_set1, hp_set2, hp_set3, hp_old, hp_sold, set_got, set_set, set_next, set_other, bytesL, bytes_all, List.length_map, aapp_nils, aapp_wr, List.flatMap_cons, List.flatMap_nil, Nat.mul_one]
  by_cases d1 : at_ = n
  · subst d1
    have e0 : C.take (at_ * 2) ++ ycs ++ (C.take (at_ * 2)).drop (at_ * 2) = C.take (at_ * 2) ++ ycs := by
      rw [List.drop_of_length_le (by rw [List.length_take]; omega), List.append_nil]
    rw [e0] at hroom hgrow
    by_cases d2 : at_ + 1 ≤ cap
    · have hE := ins_room (b := 16) hg hv hy h1 hC d2 (by omega)
      simp (maxSteps := 4000000) (disch := (first | omega | (simp only [set_next, List.length_append, List.length_cons, List.length_nil, List.length_take, List.length_drop, List.length_map, List.length_set, List.length_replicate]; omega) | (simp only [set_next, ne_eq, reduceCtorEq, not_false_eq_true]))) only [hE, go_sem, Nat.reduceLeDiff, Nat.reduceAdd, Nat.reduceSub, Nat.reduceMul, Nat.reduceLT, Int.reduceLT, Int.reduceLE, Int.reduceAdd, Int.reduceSub, Int.reduceMul, Int.reduceToNat, Int.reduceNeg, Int.reduceEq, Nat.reducePow, Int.reducePow, Nat.reduceEqDiff, decide_true, decide_false, reduceIte, reduceCtorEq, Int.reduceBEq, Int.reduceBNe, bne_self_eq_false, Int.cast_ofNat_Int, Bool.not_true, Bool.not_false, IntKind.bits, w_nat, w_lit, w_add, w_addl, w_ladd, w_sub, w_subl, w_lsub, w_mul, w_mull, w_lmul, t_div, t_divl, t_mod, t_modl, i_lt, i_ltl, i_llt, i_le, i_lel, i_lle, i_eq, i_eql, i_leq, Nat.zero_le, d_beq, d_bne, d_bytes, byte_at, Int.toNat_natCast, toNat_lit, decide_eq_true, decide_eq_false, if_pos, if_neg, slA_len, slA_idx, slA_cells, flat_slA, one_slA, cells_slA, map_mid, strV_is, hp_get1, hp_get2, hp_get3, hp_set1, hp_set2, hp_set3, hp_old, hp_sold, set_got, set_set, set_next, set_other, bytesL, bytes_all, List.length_map, aapp_nils, aapp_wr, List.flatMap_cons, List.flatMap_nil, Nat.mul_one]
      rw [hp_nil]
      have hRm : ∀ c ∈ C.take (at_ * 2) ++ ycs ++ C.drop (at_ * 2 + 2), c ∈ C ∨ c ∈ ycs := fun c hc => by
        rcases List.mem_append.1 hc with q | q
        · rcases List.mem_append.1 q with q | q
          · exact .inl (List.mem_of_mem_take q)
          · exact .inr q
        · exact .inl (List.mem_of_mem_drop q)
      refine aret_wc (Nat.le_refl _) ?_ (set_got hlg) ?_
      · exact within_set hs (hall _ hRm)
      · rw [set_set]
        refine hroom _ ?_ (within_set hs (hall _ (fun c hc => hRm c (List.mem_of_mem_take hc))))
        rw [List.take_append_of_le_length (by rw [List.length_append, List.length_take, hy]; omega), List.take_of_length_le (by rw [List.length_append, List.length_take, hy]; omega)]
    · have hE := ins_grow (b := 16) hg hv hy h1 hC d2 hold (by omega)
      simp (maxSteps := 4000000) (disch := (first | omega | (simp only [set_next, List.length_append, List.length_cons, List.length_nil, List.length_take, List.length_drop, List.length_map, List.length_set, List.length_replicate]; omega) | (simp only [set_next, ne_eq, reduceCtorEq, not_false_eq_true]))) only [hE, go_sem, Nat.reduceLeDiff, Nat.reduceAdd, Nat.reduceSub, Nat.reduceMul, Nat.reduceLT, Int.reduceLT, Int.reduceLE, Int.reduceAdd, Int.reduceSub, Int.reduceMul, Int.reduceToNat, Int.reduceNeg, Int.reduceEq, Nat.reducePow, Int.reducePow, Nat.reduceEqDiff, decide_true, decide_false, reduceIte, reduceCtorEq, Int.reduceBEq, Int.reduceBNe, bne_self_eq_false, Int.cast_ofNat_Int, Bool.not_true, Bool.not_false, IntKind.bits, w_nat, w_lit, w_add, w_addl, w_ladd, w_sub, w_subl, w_lsub, w_mul, w_mull, w_lmul, t_div, t_divl, t_mod, t_modl, i_lt, i_ltl, i_llt, i_le, i_lel, i_lle, i_eq, i_eql, i_leq, Nat.zero_le, d_beq, d_bne, d_bytes, byte_at, Int.toNat_natCast, toNat_lit, decide_eq_true, decide_eq_false, if_pos, if_neg, slA_len, slA_idx, slA_cells, flat_slA, one_slA, cells_slA, map_mid, strV_is, hp_get1, hp_get2, hp_get3, hp_set1, hp_set2, hp_set3, hp_old, hp_sold, set_got, set_set, set_next, set_other, bytesL, bytes_all, List.length_map, aapp_nils, aapp_wr, List.flatMap_cons, List.flatMap_nil, Nat.mul_one]
      rw [hp_nil]
      have hw2 := hpu (C.take (at_ * 2) ++ ycs) (fun c hc => by
        rcases List.mem_append.1 hc with q | q
        · exact .inl (List.mem_of_mem_take q)
        · exact .inr q)
      exact aret_full (Nat.le_succ _) hw2 (.wr _ _ _ _ _ (Nat.lt_succ_self _)) (hgrow hw2)
  · have d3 : at_ < n := by omega
    have emid : (C.drop (at_ * 2)).take ((n - at_) * 2) = (C.take (n * 2)).drop (at_ * 2) := by
      rw [List.drop_take]
      congr 1
      omega
    by_cases d2 : n + 1 ≤ cap
    · simp (maxSteps := 4000000) (disch := (first | omega | (simp only [set_next, List.length_append, List.length_cons, List.length_nil, List.length_take, List.length_drop, List.length_map, List.length_set, List.length_replicate]; omega) | (simp only [set_next, ne_eq, reduceCtorEq, not_false_eq_true]))) only [go_sem, Nat.reduceLeDiff, Nat.reduceAdd, Nat.reduceSub, Nat.reduceMul, Nat.reduceLT, Int.reduceLT, Int.reduceLE, Int.reduceAdd, Int.reduceSub, Int.reduceMul, Int.reduceToNat, Int.reduceNeg, Int.reduceEq, Nat.reducePow, Int.reducePow, Nat.reduceEqDiff, decide_true, decide_false, reduceIte, reduceCtorEq, Int.reduceBEq, Int.reduceBNe, bne_self_eq_false, Int.cast_ofNat_Int, Bool.not_true, Bool.not_false, IntKind.bits, w_nat, w_lit, w_add, w_addl, w_ladd, w_sub, w_subl, w_lsub, w_mul, w_mull, w_lmul, t_div, t_divl, t_mod, t_modl, i_lt, i_ltl, i_llt, i_le, i_lel, i_lle, i_eq, i_eql, i_leq, Nat.zero_le, d_beq, d_bne, d_bytes, byte_at, Int.toNat_natCast, toNat_lit, decide_eq_true, decide_eq_false, if_pos, if_neg, slA_len, slA_idx, slA_cells, flat_slA, one_slA, cells_slA, map_mid, strV_is, hp_get1, hp_get2, hp_get3, hp_set1, hp_set2, hp_set3, hp_old, hp_sold, set_got, set_set, set_next, set_other, bytesL, bytes_all, List.length_map, aapp_nils, aapp_wr, List.flatMap_cons, List.flatMap_nil, Nat.mul_one]
      refine overlapsS_a (H := hp H []) (cv := ycs) (cs := C) (by rw [hp_nil]; exact hv) (by rw [hp_nil]; exact hg) hne (by rw [hy]; decide) (by omega) ?_
      have hc1 := copy_wc (R := C) (sz := 2) (cap := cap - (at_ + 1)) (off := (at_ + 1) * 2) (len := n + 1 - (at_ + 1)) hg (cells_wc_at (R := C) (sz := 2) (cap := cap - at_) (off := at_ * 2) (len := n + 1 - at_) hg (by omega)) (by
        rw [show min (n + 1 - at_) (n + 1 - (at_ + 1)) = n - at_ by omega, List.take_take, show min ((n - at_) * 2) ((n + 1 - at_) * 2) = (n - at_) * 2 by omega, emid]
        rw [List.all_eq_true] at hold ⊢
        exact fun c hc => hold c (List.mem_of_mem_drop hc)) (by omega)
      rw [show min (n + 1 - at_) (n + 1 - (at_ + 1)) = n - at_ by omega, List.take_take, show min ((n - at_) * 2) ((n + 1 - at_) * 2) = (n - at_) * 2 by omega, emid] at hc1
      simp (maxSteps := 4000000) (disch := (first | omega | (simp only [set_next, List.length_append, List.length_cons, List.length_nil, List.length_take, List.length_drop, List.length_map, List.length_set, List.length_replicate]; omega) | (simp only [set_next, ne_eq, reduceCtorEq, not_false_eq_true]))) only [Nat.sub_zero, hc1, or_true, go_sem, Nat.reduceLeDiff, Nat.reduceAdd, Nat.reduceSub, Nat.reduceMul, Nat.reduceLT, Int.reduceLT, Int.reduceLE, Int.reduceAdd, Int.reduceSub, Int.reduceMul, Int.reduceToNat, Int.reduceNeg, Int.reduceEq, Nat.reducePow, Int.reducePow, Nat.reduceEqDiff, decide_true, decide_false, reduceIte, reduceCtorEq, Int.reduceBEq, Int.reduceBNe, bne_self_eq_false, Int.cast_ofNat_Int, Bool.not_true, Bool.not_false, IntKind.bits, w_nat, w_lit, w_add, w_addl, w_ladd, w_sub, w_subl, w_lsub, w_mul, w_mull, w_lmul, t_div, t_divl, t_mod, t_modl, i_lt, i_ltl, i_llt, i_le, i_lel, i_lle, i_eq, i_eql, i_leq, Nat.zero_le, d_beq, d_bne, d_bytes, byte_at, Int.toNat_natCast, toNat_lit, decide_eq_true, decide_eq_false, if_pos, if_neg, slA_len, slA_idx, slA_cells, flat_slA, one_slA, cells_slA, map_mid, strV_is, hp_get1, hp_get2, hp_get3, hp_set1, hp_set2, hp_set3, hp_old, hp_sold, set_got, set_set, set_next, set_other, bytesL, bytes_all, List.length_map, aapp_nils, aapp_wr, List.flatMap_cons, List.flatMap_nil, Nat.mul_one]
      have hmi : min 1 (n + 1 - at_) = 1 := by omega
      have hM : ((C.take (n * 2)).drop (at_ * 2)).length = (n - at_) * 2 := by rw [List.length_drop, List.length_take]; omega
      have hA : (C.take (at_ * 2)).length = at_ * 2 := by rw [List.length_take]; omega
      have hMC : ∀ c ∈ (C.take (n * 2)).drop (at_ * 2), c ∈ C := fun c hc => List.mem_of_mem_take (List.mem_of_mem_drop hc)
      generalize hMd : (C.take (n * 2)).drop (at_ * 2) = M at *
      have hc2 := copy_wc (G := H.set id (.row 64 gen (C.take ((at_ + 1) * 2) ++ M ++ C.drop ((at_ + 1) * 2 + (n - at_) * 2)))) (R := C.take ((at_ + 1) * 2) ++ M ++ C.drop ((at_ + 1) * 2 + (n - at_) * 2)) (sz := 2) (cap := cap - at_) (off := at_ * 2) (len := n + 1 - at_) (m := 1) (ys := ycs) (x := .wr idv 0 0 1 2) (set_got hlg) (by
        have := ins_cells (H := H.set id (.row 64 gen (C.take ((at_ + 1) * 2) ++ M ++ C.drop ((at_ + 1) * 2 + (n - at_) * 2)))) (idv := idv) (e := 64) (sz := 2) ((set_other hne).trans hv) hy
        rw [hp_nil] at this
        exact this) (by rw [hmi, List.take_of_length_le (by omega)]; exact h1) (by rw [List.length_append, List.length_append, List.length_take, List.length_drop]; omega)
      rw [hmi, List.take_of_length_le (l := ycs) (by omega)] at hc2
      have hR : (C.take ((at_ + 1) * 2) ++ M ++ C.drop ((at_ + 1) * 2 + (n - at_) * 2)).take (at_ * 2) = C.take (at_ * 2) := by
        rw [List.append_assoc, List.take_append_of_le_length (by rw [List.length_take]; omega), List.take_take, show min (at_ * 2) ((at_ + 1) * 2) = at_ * 2 by omega]
      have hR2 : (C.take ((at_ + 1) * 2) ++ M ++ C.drop ((at_ + 1) * 2 + (n - at_) * 2)).drop (at_ * 2 + 1 * 2) = M ++ C.drop ((at_ + 1) * 2 + (n - at_) * 2) := by
        rw [List.append_assoc, List.drop_append, List.drop_of_length_le (by rw [List.length_take]; omega), List.nil_append, show at_ * 2 + 1 * 2 - (C.take ((at_ + 1) * 2)).length = 0 by rw [List.length_take]; omega, List.drop_zero]
      rw [hR, hR2] at hc2
      simp (maxSteps := 4000000) (disch := (first | omega | (simp only [set_next, List.length_append, List.length_cons, List.length_nil, List.length_take, List.length_drop, List.length_map, List.length_set, List.length_replicate]; omega) | (simp only [set_next, ne_eq, reduceCtorEq, not_false_eq_true]))) only [hc2, go_sem, Nat.reduceLeDiff, Nat.reduceAdd, Nat.reduceSub, Nat.reduceMul, Nat.reduceLT, Int.reduceLT, Int.reduceLE, Int.reduceAdd, Int.reduceSub, Int.reduceMul, Int.reduceToNat, Int.reduceNeg, Int.reduceEq, Nat.reducePow, Int.reducePow, Nat.reduceEqDiff, decide_true, decide_false, reduceIte, reduceCtorEq, Int.reduceBEq, Int.reduceBNe, bne_self_eq_false, Int.cast_ofNat_Int, Bool.not_true, Bool.not_false, IntKind.bits, w_nat, w_lit, w_add, w_addl, w_ladd, w_sub, w_subl, w_lsub, w_mul, w_mull, w_lmul, t_div, t_divl, t_mod, t_modl, i_lt, i_ltl, i_llt, i_le, i_lel, i_lle, i_eq, i_eql, i_leq, Nat.zero_le, d_beq, d_bne, d_bytes, byte_at, Int.toNat_natCast, toNat_lit, decide_eq_true, decide_eq_false, if_pos, if_neg, slA_len, slA_idx, slA_cells, flat_slA, one_slA, cells_slA, map_mid, strV_is, hp_get1, hp_get2, hp_get3, hp_set1, hp_set2, hp_set3, hp_old, hp_sold, set_got, set_set, set_next, set_other, bytesL, bytes_all, List.length_map, aapp_nils, aapp_wr, List.flatMap_cons, List.flatMap_nil, Nat.mul_one]
      rw [hp_nil]
      have hRm : ∀ c ∈ C.take (at_ * 2) ++ ycs ++ (M ++ C.drop ((at_ + 1) * 2 + (n - at_) * 2)), c ∈ C ∨ c ∈ ycs := fun c hc => by
        rcases List.mem_append.1 hc with q | q
        · rcases List.mem_append.1 q with q | q
          · exact .inl (List.mem_of_mem_take q)
          · exact .inr q
        · rcases List.mem_append.1 q with q | q
          · exact .inl (hMC c q)
          · exact .inl (List.mem_of_mem_drop q)
      refine aret_wc (Nat.le_refl _) ?_ (set_got hlg) ?_
      · exact within_set hs (hall _ hRm)
      · rw [set_set]
        refine hroom _ ?_ (within_set hs (hall _ (fun c hc => hRm c (List.mem_of_mem_take hc))))
        rw [← List.append_assoc, List.take_append_of_le_length (by rw [List.length_append, List.length_append, hA, hy, hM]; omega), List.take_of_length_le (by rw [List.length_append, List.length_append, hA, hy, hM]; omega)]
    · have hz := ins_zeros (b := 16) (z := [.int .i64 0, .int .i64 0]) (i := at_) (n := n) (m := ((n + 1 - at_ : Nat) : Int)) hg hC (by omega) rfl d2 (by
        rw [List.all_eq_true] at hold ⊢
        exact fun c hc => hold c (List.take_subset_take_left _ (by omega) hc)) (by omega)
      simp (maxSteps := 4000000) (disch := (first | omega | (simp only [set_next, List.length_append, List.length_cons, List.length_nil, List.length_take, List.length_drop, List.length_map, List.length_set, List.length_replicate]; omega) | (simp only [set_next, ne_eq, reduceCtorEq, not_false_eq_true]))) only [Nat.sub_zero, hz, or_true, go_sem, Nat.reduceLeDiff, Nat.reduceAdd, Nat.reduceSub, Nat.reduceMul, Nat.reduceLT, Int.reduceLT, Int.reduceLE, Int.reduceAdd, Int.reduceSub, Int.reduceMul, Int.reduceToNat, Int.reduceNeg, Int.reduceEq, Nat.reducePow, Int.reducePow, Nat.reduceEqDiff, decide_true, decide_false, reduceIte, reduceCtorEq, Int.reduceBEq, Int.reduceBNe, bne_self_eq_false, Int.cast_ofNat_Int, Bool.not_true, Bool.not_false, IntKind.bits, w_nat, w_lit, w_add, w_addl, w_ladd, w_sub, w_subl, w_lsub, w_mul, w_mull, w_lmul, t_div, t_divl, t_mod, t_modl, i_lt, i_ltl, i_llt, i_le, i_lel, i_lle, i_eq, i_eql, i_leq, Nat.zero_le, d_beq, d_bne, d_bytes, byte_at, Int.toNat_natCast, toNat_lit, decide_eq_true, decide_eq_false, if_pos, if_neg, slA_len, slA_idx, slA_cells, flat_slA, one_slA, cells_slA, map_mid, strV_is, hp_get1, hp_get2, hp_get3, hp_set1, hp_set2, hp_set3, hp_old, hp_sold, set_got, set_set, set_next, set_other, bytesL, bytes_all, List.length_map, aapp_nils, aapp_wr, List.flatMap_cons, List.flatMap_nil, Nat.mul_one]
      have hmi : min 1 (n + 1 - at_) = 1 := by omega
      have hM : ((C.take (n * 2)).drop (at_ * 2)).length = (n - at_) * 2 := by rw [List.length_drop, List.length_take]; omega
      have hA : (C.take (at_ * 2)).length = at_ * 2 := by rw [List.length_take]; omega
      have hMo : ((C.take (n * 2)).drop (at_ * 2)).all AV.one = true := by
        rw [List.all_eq_true] at hold ⊢
        exact fun c hc => hold c (List.mem_of_mem_drop hc)
      have hMC : ∀ c ∈ (C.take (n * 2)).drop (at_ * 2), c ∈ C := fun c hc => List.mem_of_mem_take (List.mem_of_mem_drop hc)
      generalize hMd : (C.take (n * 2)).drop (at_ * 2) = M at *
      have hZ : ((List.replicate (n + 1 - at_) [AV.int .i64 0, AV.int .i64 0]).flatten).length = (n + 1 - at_) * 2 := by simp
      generalize (List.replicate (n + 1 - at_) [AV.int .i64 0, AV.int .i64 0]).flatten = Z at *
      have hAC : ∀ c ∈ C.take (at_ * 2), c ∈ C := fun c hc => List.mem_of_mem_take hc
      have hc1 := copy_wr (G := H.push (.row 64 0 (C.take (at_ * 2) ++ Z))) (R := C.take (at_ * 2) ++ Z) (sz := 2) (off := at_ * 2) (len := n + 1 - at_) (m := 1) (ys := ycs) (x := .wr idv 0 0 1 2) (push_get_new _ _) (by
        have := ins_cells (H := H.push (.row 64 0 (C.take (at_ * 2) ++ Z))) (idv := idv) (e := 64) (sz := 2) ((push_get_old _ _ _ hlv).trans hv) hy
        rw [hp_nil] at this
        exact this) h1 (by rw [List.length_append, hA, hZ]; omega)
      rw [hmi, List.take_of_length_le (l := ycs) (by omega), set_push_new, List.take_left' hA, List.drop_append, List.drop_of_length_le (l := C.take (at_ * 2)) (by omega), List.nil_append, hA, show at_ * 2 + 1 * 2 - at_ * 2 = 2 by omega] at hc1
      simp (maxSteps := 4000000) (disch := (first | omega | (simp only [set_next, List.length_append, List.length_cons, List.length_nil, List.length_take, List.length_drop, List.length_map, List.length_set, List.length_replicate]; omega) | (simp only [set_next, ne_eq, reduceCtorEq, not_false_eq_true]))) only [hc1, go_sem, Nat.reduceLeDiff, Nat.reduceAdd, Nat.reduceSub, Nat.reduceMul, Nat.reduceLT, Int.reduceLT, Int.reduceLE, Int.reduceAdd, Int.reduceSub, Int.reduceMul, Int.reduceToNat, Int.reduceNeg, Int.reduceEq, Nat.reducePow, Int.reducePow, Nat.reduceEqDiff, decide_true, decide_false, reduceIte, reduceCtorEq, Int.reduceBEq, Int.reduceBNe, bne_self_eq_false, Int.cast_ofNat_Int, Bool.not_true, Bool.not_false, IntKind.bits, w_nat, w_lit, w_add, w_addl, w_ladd, w_sub, w_subl, w_lsub, w_mul, w_mull, w_lmul, t_div, t_divl, t_mod, t_modl, i_lt, i_ltl, i_llt, i_le, i_lel, i_lle, i_eq, i_eql, i_leq, Nat.zero_le, d_beq, d_bne, d_bytes, byte_at, Int.toNat_natCast, toNat_lit, decide_eq_true, decide_eq_false, if_pos, if_neg, slA_len, slA_idx, slA_cells, flat_slA, one_slA, cells_slA, map_mid, strV_is, hp_get1, hp_get2, hp_get3, hp_set1, hp_set2, hp_set3, hp_old, hp_sold, set_got, set_set, set_next, set_other, bytesL, bytes_all, List.length_map, aapp_nils, aapp_wr, List.flatMap_cons, List.flatMap_nil, Nat.mul_one]
      have hc2 := copy_wr (G := H.push (.row 64 0 (C.take (at_ * 2) ++ ycs ++ Z.drop 2))) (R := C.take (at_ * 2) ++ ycs ++ Z.drop 2) (sz := 2) (off := (at_ + 1) * 2) (len := n + 1 - (at_ + 1)) (push_get_new _ _) (cells_wc_at (R := C) (sz := 2) (cap := cap - at_) (off := at_ * 2) (len := n - at_) ((push_get_old _ _ _ hlg).trans hg) (by omega)) (by rw [emid]; exact hMo) (by rw [List.length_append, List.length_append, hA, hy, List.length_drop, hZ]; omega)
      rw [emid, show min (n - at_) (n + 1 - (at_ + 1)) = n - at_ by omega, List.take_of_length_le (l := M) (by omega), set_push_new, List.take_left' (by rw [List.length_append, hA, hy]; omega), List.drop_of_length_le (l := C.take (at_ * 2) ++ ycs ++ Z.drop 2) (by rw [List.length_append, List.length_append, hA, hy, List.length_drop, hZ]; omega), List.append_nil] at hc2
      simp (maxSteps := 4000000) (disch := (first | omega | (simp only [set_next, List.length_append, List.length_cons, List.length_nil, List.length_take, List.length_drop, List.length_map, List.length_set, List.length_replicate]; omega) | (simp only [set_next, ne_eq, reduceCtorEq, not_false_eq_true]))) only [hc2, or_true, go_sem, Nat.reduceLeDiff, Nat.reduceAdd, Nat.reduceSub, Nat.reduceMul, Nat.reduceLT, Int.reduceLT, Int.reduceLE, Int.reduceAdd, Int.reduceSub, Int.reduceMul, Int.reduceToNat, Int.reduceNeg, Int.reduceEq, Nat.reducePow, Int.reducePow, Nat.reduceEqDiff, decide_true, decide_false, reduceIte, reduceCtorEq, Int.reduceBEq, Int.reduceBNe, bne_self_eq_false, Int.cast_ofNat_Int, Bool.not_true, Bool.not_false, IntKind.bits, w_nat, w_lit, w_add, w_addl, w_ladd, w_sub, w_subl, w_lsub, w_mul, w_mull, w_lmul, t_div, t_divl, t_mod, t_modl, i_lt, i_ltl, i_llt, i_le, i_lel, i_lle, i_eq, i_eql, i_leq, Nat.zero_le, d_beq, d_bne, d_bytes, byte_at, Int.toNat_natCast, toNat_lit, decide_eq_true, decide_eq_false, if_pos, if_neg, slA_len, slA_idx, slA_cells, flat_slA, one_slA, cells_slA, map_mid, strV_is, hp_get1, hp_get2, hp_get3, hp_set1, hp_set2, hp_set3, hp_old, hp_sold, set_got, set_set, set_next, set_other, bytesL, bytes_all, List.length_map, aapp_nils, aapp_wr, List.flatMap_cons, List.flatMap_nil, Nat.mul_one]
      rw [hp_nil]
      have hw2 := hpu (C.take (at_ * 2) ++ ycs ++ M) (fun c hc => by
        rcases List.mem_append.1 hc with q | q
        · rcases List.mem_append.1 q with q | q
          · exact .inl (hAC c q)
          · exact .inr q
        · exact .inl (hMC c q))
      exact aret_full (Nat.le_succ _) hw2 (.wr _ _ _ _ _ (Nat.lt_succ_self _)) (hgrow hw2)
end
section
variable {H : AHeap} {K : AV → AHeap → Prop}
theorem insertS_a {n0 at_ idv : Nat} {v y : AV} {xs : List AV} (h : SlAt n0 H 64 2 v xs) (hn0 : n0 ≤ H.next) (hx : ∀ x ∈ xs, x.cells.length = 2) (hx1 : (xs.flatMap AV.cells).all AV.one = true)
    (hv : H.get idv = some (.row 64 0 y.cells)) (hvn : ∀ gen off len sz, v ≠ .wr idv gen off len sz) (hy : y.cells.length = 2) (hy1 : y.cells.all AV.one = true) (hat : at_ ≤ xs.length) (hnb : xs.length ≤ 1000000)
    (hk : ∀ v' G, SlAt n0 G 64 2 v' (xs.take at_ ++ [y] ++ xs.drop at_) → Grew n0 v H v' G → G.within G.next → K v' G) :
    (ACalls Try.prog) 49 [v, .int .i64 (at_ : Int), .wr idv 0 0 1 2] H K := by
  have hnew : Grew n0 v H (.wr H.next 0 0 (xs.length + 1) 2) (H.push (.row 64 0 ((xs.take at_ ++ [y] ++ xs.drop at_).flatMap AV.cells))) :=
    ⟨Nat.le_succ _, fun i hi => push_get_old _ _ _ (by omega), fun i o h _ => by rw [push_get_old _ _ _ (H.lt h)]; exact h, fun j hj _ gen off len sz e => by cases e; omega⟩
  have hsn : SlAt n0 (H.push (.row 64 0 ((xs.take at_ ++ [y] ++ xs.drop at_).flatMap AV.cells))) 64 2 (.wr H.next 0 0 (xs.length + 1) 2) (xs.take at_ ++ [y] ++ xs.drop at_) :=
    .inr ⟨H.next, 0, by
      have : (xs.take at_ ++ [y] ++ xs.drop at_).length = xs.length + 1 := by
        rw [List.length_append, List.length_append, List.length_take, List.length_drop, List.length_singleton]
        omega
      rw [this], hn0, push_get_new _ _⟩
  rcases h with ⟨rfl, rfl⟩ | ⟨id, gen, rfl, hid, hg⟩
  · have h0 : at_ = 0 := by simpa using hat
    subst h0
    refine acalls_go mo t49 (fun hs hu => ?_)
    have hc := ins_cells (H := H) (idv := idv) (e := 64) (sz := 2) hv hy
    have hE : aapp 64 2 16 (hp H []) .nils (.wr idv 0 0 1 2) = some (.wr H.next 0 0 1 2, hp (H.push (.row 64 0 y.cells)) []) := by
      rw [aapp_nils, hc]
      simp only [hy1, if_true]
      rw [if_neg (by decide), if_pos (by decide), hp_nil, hp_nil]
    have hfin := fun w => hk _ _ hsn hnew w
    have e1 : ((([] : List AV).take 0 ++ [y] ++ ([] : List AV).drop 0).flatMap AV.cells) = y.cells := by simp
    rw [e1] at hfin
    simp only [c49, go_sem, Nat.reduceLeDiff, Nat.reduceAdd, Nat.reduceSub, Nat.reduceMul, Nat.reduceLT, Int.reduceLT, Int.reduceLE, Int.reduceAdd, Int.reduceSub, Int.reduceMul, Int.reduceToNat, Int.reduceNeg, Int.reduceEq, Nat.reducePow, Int.reducePow, Nat.reduceEqDiff, decide_true, decide_false, reduceIte, reduceCtorEq, Int.reduceBEq, Int.reduceBNe, bne_self_eq_false, Int.cast_ofNat_Int, Bool.not_true, Bool.not_false, IntKind.bits]
    simp (maxSteps := 4000000) (disch := (first | omega | (simp only [set_next, List.length_append, List.length_cons, List.length_nil, List.length_take, List.length_drop, List.length_map, List.length_set, List.length_replicate]; omega) | (simp only [set_next, ne_eq, reduceCtorEq, not_false_eq_true]))) only [hE, go_sem, Nat.reduceLeDiff, Nat.reduceAdd, Nat.reduceSub, Nat.reduceMul, Nat.reduceLT, Int.reduceLT, Int.reduceLE, Int.reduceAdd, Int.reduceSub, Int.reduceMul, Int.reduceToNat, Int.reduceNeg, Int.reduceEq, Nat.reducePow, Int.reducePow, Nat.reduceEqDiff, decide_true, decide_false, reduceIte, reduceCtorEq, Int.reduceBEq, Int.reduceBNe, bne_self_eq_false, Int.cast_ofNat_Int, Bool.not_true, Bool.not_false, IntKind.bits, w_nat, w_lit, w_add, w_addl, w_ladd, w_sub, w_subl, w_lsub, w_mul, w_mull, w_lmul, t_div, t_divl, t_mod, t_modl, i_lt, i_ltl, i_llt, i_le, i_lel, i_lle, i_eq, i_eql, i_leq, Nat.zero_le, d_beq, d_bne, d_bytes, byte_at, Int.toNat_natCast, toNat_lit, decide_eq_true, decide_eq_false, if_pos, if_neg, slA_len, slA_idx, slA_cells, flat_slA, one_slA, cells_slA, map_mid, strV_is, hp_get1, hp_get2, hp_get3, hp_set1, hp_set2, hp_set3, hp_old, hp_sold, set_got, set_set, set_next, set_other, bytesL, bytes_all, List.length_map, aapp_nils, aapp_wr, List.flatMap_cons, List.flatMap_nil, Nat.mul_one]
    rw [hp_nil]
    have hpush : H.push (.row 64 0 y.cells) = hp H [.row 64 0 y.cells] := by
      have := hp_push H [] (.row 64 0 y.cells)
      rw [hp_nil] at this
      exact this
    have hw2 : (H.push (.row 64 0 y.cells)).within (H.push (.row 64 0 y.cells)).next := by
      rw [hpush]
      refine within_hp2 hs (fun o ho => ?_)
      rw [List.mem_singleton] at ho
      subst ho
      exact fun c hc => up_under (Nat.le_succ _) (hs idv _ (H.lt hv) hv c hc)
    exact aret_full (Nat.le_succ _) hw2 (.wr _ _ _ _ _ (Nat.lt_succ_self _)) (hfin hw2)
  · have hne : idv ≠ id := fun e => hvn gen 0 xs.length 2 (by rw [e])
    have hfl := flat_length _ _ hx
    refine acalls_cap (pre := []) hg (fun cap hc1 hc2 => ?_)
    have hpt : (padC (0 + cap * 2) (xs.flatMap AV.cells)).take (xs.length * 2) = xs.flatMap AV.cells := by
      rw [padC_take _ _ (by omega), List.take_of_length_le (by omega)]
    have hpa : (padC (0 + cap * 2) (xs.flatMap AV.cells)).take (at_ * 2) = (xs.take at_).flatMap AV.cells := by
      rw [padC_take _ _ (by omega), flat_take xs at_ hx hat]
    have hall : (padC (0 + cap * 2) (xs.flatMap AV.cells)).take (at_ * 2) ++ y.cells ++ ((padC (0 + cap * 2) (xs.flatMap AV.cells)).take (xs.length * 2)).drop (at_ * 2) = (xs.take at_ ++ [y] ++ xs.drop at_).flatMap AV.cells := by
      rw [hpt, hpa, flat_drop xs at_ hx hat]
      simp
    have hlen := padC_len (0 + cap * 2) (xs.flatMap AV.cells)
    have hlg := H.lt hg
    refine insertS_wc (set_got hlg) ((set_other hne).trans hv) hne hy hy1 (by omega) (by rw [hpt]; exact hx1) hc1 hc2 hnb hat (fun R hR hw => ?_) (fun hw => ?_)
    · rw [hR, hall, set_set] at hw ⊢
      refine hk _ _ (.inr ⟨id, gen, ?_, hid, set_got hlg⟩) ⟨Nat.le_refl _, fun i hi => set_other (by omega), fun i o hi hvi => ?_, fun j hj hvj gen2 off2 len2 sz2 e => ?_⟩ hw
      · have : (xs.take at_ ++ [y] ++ xs.drop at_).length = xs.length + 1 := by
          rw [List.length_append, List.length_append, List.length_take, List.length_drop, List.length_singleton]
          omega
        rw [this]
      · have : i ≠ id := fun e => hvi gen 0 xs.length 2 (by rw [e])
        rw [set_other this]
        exact hi
      · cases e
        exact hvj _ _ _ _ rfl
    · rw [hall] at hw ⊢
      refine hk _ _ (.inr ⟨H.next, 0, ?_, hn0, push_get_new _ _⟩) ⟨Nat.le_succ _, fun i hi => ?_, fun i o hi hvi => ?_, fun j hj hvj gen2 off2 len2 sz2 e => ?_⟩ hw
      · have : (xs.take at_ ++ [y] ++ xs.drop at_).length = xs.length + 1 := by
          rw [List.length_append, List.length_append, List.length_take, List.length_drop, List.length_singleton]
          omega
        rw [this]
        rfl
      · rw [push_get_old _ _ _ (by rw [set_next]; omega)]
        exact set_other (by omega)
      · have : i ≠ id := fun e => hvi gen 0 xs.length 2 (by rw [e])
        rw [push_get_old _ _ _ (by rw [set_next]; exact H.lt hi), set_other this]
        exact hi
      · cases e
        have : (H.set id (.row 64 gen (padC (0 + cap * 2) (xs.flatMap AV.cells)))).next = H.next := rfl
        omega
end
end Go.Proofs.Ytdknpnmdjjmapaa.AL

