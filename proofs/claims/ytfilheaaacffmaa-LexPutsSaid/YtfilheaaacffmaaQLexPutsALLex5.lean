/- The lexemes of a source told: the program's. -/
import Derived.Test.YtfilheaaacffmaaQLexPutsALLex4
set_option linter.unusedSimpArgs false
set_option linter.unusedVariables false
set_option maxRecDepth 100000
set_option maxHeartbeats 16000000
namespace Go.Proofs.Ytfilheaaacffmaa.AL
open Go Go.Proofs
attribute [local go_sem] go_seq go_skip go_region go_regionN go_fregion rgF_some go_cond go_block go_exit go_ret nxt_nil nxt_code nxt_blk nxt_cut leave_nil leave_code leave_cut leave_blk rtn_nil rtn_code rtn_blk rtn_cut cnd_t cnd_f rgn_nil rgY_some rgY_none rgH_some rgP_some retTo_is rgV_func grd_und grd_tt grd_ff grd_tf grd_ft rgn_q rgn_alloc rgn_box rgn_store rgn_lit rgn_litw litCells_nil litCells_cons rgn_app rgn_copy rgn_mk rgn_s2b rgn_call rgn_callv rgn_stop rgn_slice3 aslice3 rgn_put rgn_mkmap rgn_lookup rgn_mapup alookup_nilm alookup_map amapup_map afound_ok afound_no rgn_c rgn_cv qclV_func aloadr rgn_guard post_ret post_normal retY_some ares aresL ares1 AX.ev aput List.getD_cons_zero List.getD_cons_succ List.set_cons_zero List.set_cons_succ List.map_cons List.map_nil aq abin aint astr abeq aconv asame aextract alenS alenL_nils alenL_emp alenL_imm alenL_wr aun apart aload afieldAddr afield aidxSl_wr aidxSl_imm aidxPt aidxStr aidxArr abound asliceStr asliceSl asliceArr abest anonil afill astore acells_nils acells_emp acells_imm acells_wr acells_str acopy litAll amk as2b anil nilOf aseq aeqs aeqv fits fit1 hp_next hp_push hp_get hp_set List.length_cons List.length_nil List.getElem?_cons_zero List.getElem?_cons_succ List.cons_append List.nil_append List.append_nil List.take_succ_cons List.take_zero List.drop_succ_cons List.drop_zero List.all_cons List.all_nil Option.map_some Option.some.injEq Bool.and_true Bool.true_and Bool.false_eq_true if_true if_false ite_true ite_false Bool.and_self true_and and_true and_self Nat.zero_add Nat.le_refl Int.toNat_natCast beq_self_eq_true eq_self tops_zero tops_succ Int.natCast_nonneg List.take_nil List.drop_nil Option.map_none flat_bool one_bool cells_bool flat_int one_int cells_int flat_str one_str cells_str flat_nilp one_nilp cells_nilp flat_ptr one_ptr cells_ptr flat_nils one_nils cells_nils flat_imm one_imm cells_imm flat_wr one_wr cells_wr flat_func one_func cells_func flat_nilf one_nilf cells_nilf flat_map one_map cells_map flat_nilm one_nilm cells_nilm flat_iface one_iface cells_iface flat_nili one_nili cells_nili flat_rd one_rd cells_rd flat_emp one_emp cells_emp flat_byteV one_byteV cells_byteV flat_agg cells_agg one_agg B_size B_list B_ext B_toList B_app List.take_length Int.le_refl
theorem endOf_suf : ∀ l : List UInt8, (endOf l).1 <:+ l
  | [] => List.suffix_refl _
  | c :: r => by
    rw [endOf]
    split
    · exact (List.tail_suffix r).trans (List.suffix_cons c r)
    · exact (endOf_suf r).trans (List.suffix_cons c r)
theorem skip_suf : ∀ (n : Nat) (l : List UInt8), l.length ≤ n → (skipL l).1 <:+ l
  | _, [], _ => List.suffix_refl _
  | 0, c :: r, hn => by simp at hn
  | n + 1, c :: r, hn => by
    rw [List.length_cons] at hn
    have l2 := dropWhile_le (· != 10) r
    have l3 := endOf_le r.tail
    rw [List.length_tail] at l3
    rw [skip_cons]
    split
    · exact (skip_suf n r (by omega)).trans (List.suffix_cons c r)
    split
    · exact ((skip_suf n _ (by omega)).trans (List.dropWhile_suffix _)).trans (List.suffix_cons c r)
    split
    · split
      · exact (((skip_suf n _ (by omega)).trans (endOf_suf _)).trans (List.tail_suffix r)).trans (List.suffix_cons c r)
      · exact List.suffix_refl _
    · exact List.suffix_refl _
theorem suf_sum {u v : List UInt8} (h : u <:+ v) : lns u ≤ lns v ∧ u.length + (lns v - lns u) ≤ v.length := by
  obtain ⟨p, rfl⟩ := h
  have := lns_le p
  rw [lns_app, List.length_append]
  omega
section
variable {H G : AHeap} {K : AV → AHeap → Prop} {id : Nat} {u : List UInt8} {ln : Nat}
theorem slat_set {n0 e sz i : Nat} {v : AV} {xs : List AV} {o : AObj} (h : SlAt n0 G e sz v xs) (hi : i < n0) : SlAt n0 (G.set i o) e sz v xs := by
  rcases h with h | ⟨id, gen, h1, h2, h3⟩
  · exact .inl h
  · exact .inr ⟨id, gen, h1, h2, by rw [set_get_ne _ _ _ _ (by omega)]; exact h3⟩
theorem lex_len (ls : List (Nat × List UInt8 × Nat)) : ∀ x ∈ ls.map lexV, x.cells.length = 3 := fun x hx => by obtain ⟨n, _, rfl⟩ := List.mem_map.1 hx; rfl
theorem lex_u (n : Nat) (ls : List (Nat × List UInt8 × Nat)) : AllC n (ls.map lexV) := uc_map n ls (fun x => by rw [lexV_is]; simp only [u_top, u_bool, u_int, u_str, u_nilp, u_nils, u_nilf, u_nilm, u_nili, u_emp, u_byteV, u_ptr, u_wr, u_agg, u_tup, u_rd, u_imm, u_func, u_nil, u_cons, u_app, uc_nil, uc_cons, uc_app, u_bytes, uc_bytes, u_ints, uc_ints, cells_bool, cells_int, cells_str, cells_agg, cells_ptr, cells_nils, cells_imm, cells_wr, cells_nilp, cells_nilf, cells_nilm, cells_rd, cells_emp, cells_byteV, cells_func, and_self, and_true, true_and, u_slA, uc_strs, cells_slA, strV_is])
theorem read_a {s : List UInt8} (hl : s.length < 1073741824) (h : ∀ k, K (.tup [slA k 3 ((readL 1 [] s).1.map lexV), .int .i64 ((readL 1 [] s).2.1 : Int), .int .i64 ((readL 1 [] s).2.2 : Int)]) H) : (ACalls Try.prog) 37 [.str (B s)] H K := by
  refine acalls_go mo t37 (fun hs hu => ?_)
  have hbad : ∀ n e, readL 1 [] s = ([], n, e) → K (.tup [.nils, .int .i64 (n : Int), .int .i64 (e : Int)]) H := fun n e he => by
    have := h 0
    rw [he] at this
    exact this
  simp only [c37, go_sem, Nat.reduceLeDiff, Nat.reduceAdd, Nat.reduceSub, Nat.reduceMul, Nat.reduceLT, Int.reduceLT, Int.reduceLE, Int.reduceAdd, Int.reduceSub, Int.reduceMul, Int.reduceToNat, Int.reduceNeg, Int.reduceEq, Nat.reducePow, Int.reducePow, Nat.reduceEqDiff, decide_true, decide_false, reduceIte, reduceCtorEq, Int.reduceBEq, Int.reduceBNe, bne_self_eq_false, Int.cast_ofNat_Int, Bool.not_true, Bool.not_false, IntKind.bits]
  refine go_loopS mono (σ := AHeap × AV × List (Nat × List UInt8 × Nat) × List UInt8 × Nat) (fun z => [(6, z.2.1)]) (fun z => hp z.1 []) (fun z => Past H z.1 ∧ H.next + 1 ≤ z.1.next ∧ SlAt (H.next + 1) z.1 80 3 z.2.1 (z.2.2.1.map lexV) ∧ z.1.get (H.next + 0) = some (rdr z.2.2.2.1 z.2.2.2.2) ∧ z.2.2.2.1.length + z.2.2.2.2 ≤ s.length + 1 ∧ z.2.2.1.length ≤ 4096 ∧ readL z.2.2.2.2 z.2.2.1 z.2.2.2.1 = readL 1 [] s) (fun z => z.2.2.2.1.length) (hp H [rdr s 1], .nils, [], s, 1) ?_ (by rw [hp_nil]; rfl) ⟨past_hp past_refl _, Nat.le_refl _, slat_nil, hp_get _ _ 0, by show s.length + 1 ≤ s.length + 1; omega, by simp, rfl⟩ (fun z hz J hJ => ?_)
  · (simp only [blurR_nil, blurR_some, blurR_none, blurC_region, blurC_regionN, blurC_fregion, blurT_nil, blurT_cons, blurC_seq, blurC_cond, blurC_block, blurC_loop, blurC_skip, blurC_exit, blurC_ret, tellS_nil, tellS_cons, List.set_cons_zero, List.set_cons_succ, tops_zero, tops_succ]; repeat first | exact forget_nil | apply forget_keep | apply forget_top)
  obtain ⟨G, v, out, u, ln⟩ := z
  obtain ⟨hG, hGn, hv, hg0, hb, ho, hrd⟩ := hz
  simp only at hG hGn hv hg0 hb ho hrd
  have hn0 : H.next + 0 < G.next := by omega
  simp only [blurR_nil, blurR_some, blurR_none, blurC_region, blurC_regionN, blurC_fregion, blurT_nil, blurT_cons, blurC_seq, blurC_cond, blurC_block, blurC_loop, blurC_skip, blurC_exit, blurC_ret, tellS_nil, tellS_cons, List.set_cons_zero, List.set_cons_succ, tops_zero, tops_succ]
  have hgg : ∀ u ln l, (hp (G.set (H.next + 0) (rdr u ln)) l).get (H.next + 0) = some (rdr u ln) := fun u ln l => (hp_old (by rw [set_next]; exact hn0)).trans (set_got hn0)
  have hsuf := suf_sum (skip_suf _ u (Nat.le_refl _))
  have htk := fun k t q => tok_lt (l := (skipL u).1) (k := k) (t := t) (q := q)
  rw [read_eq] at hrd
  have hend : ∀ (u1 : List UInt8) (l1 : Nat) (l : List AObj) (n e : Nat), ([], n, e) = readL 1 [] s → ARet H.next K (.tup [.nils, .int .i64 (n : Int), .int .i64 (e : Int)]) (hp (G.set (H.next + 0) (rdr u1 l1)) l) := fun u1 l1 l n e he => aret_past (past_hp (past_set hG (Nat.le_add_right _ _) _) l) hs (by simp only [u_top, u_bool, u_int, u_str, u_nilp, u_nils, u_nilf, u_nilm, u_nili, u_emp, u_byteV, u_ptr, u_wr, u_agg, u_tup, u_rd, u_imm, u_func, u_nil, u_cons, u_app, uc_nil, uc_cons, uc_app, u_bytes, uc_bytes, u_ints, uc_ints, cells_bool, cells_int, cells_str, cells_agg, cells_ptr, cells_nils, cells_imm, cells_wr, cells_nilp, cells_nilf, cells_nilm, cells_rd, cells_emp, cells_byteV, cells_func, and_self, and_true, true_and, u_slA, uc_strs, cells_slA, strV_is]) (hbad n e he.symm)
  simp (maxSteps := 4000000) (disch := (first | omega | (simp only [set_next, List.length_append, List.length_cons, List.length_nil, List.length_take, List.length_drop, List.length_map, List.length_set, List.length_replicate]; omega) | (simp only [set_next, ne_eq, reduceCtorEq, not_false_eq_true]))) only [go_sem, Nat.reduceLeDiff, Nat.reduceAdd, Nat.reduceSub, Nat.reduceMul, Nat.reduceLT, Int.reduceLT, Int.reduceLE, Int.reduceAdd, Int.reduceSub, Int.reduceMul, Int.reduceToNat, Int.reduceNeg, Int.reduceEq, Nat.reducePow, Int.reducePow, Nat.reduceEqDiff, decide_true, decide_false, reduceIte, reduceCtorEq, Int.reduceBEq, Int.reduceBNe, bne_self_eq_false, Int.cast_ofNat_Int, Bool.not_true, Bool.not_false, IntKind.bits, w_nat, w_lit, w_add, w_addl, w_ladd, w_sub, w_subl, w_lsub, w_mul, w_mull, w_lmul, t_div, t_divl, t_mod, t_modl, i_lt, i_ltl, i_llt, i_le, i_lel, i_lle, i_eq, i_eql, i_leq, Nat.zero_le, d_beq, d_bne, d_bytes, byte_at, Int.toNat_natCast, toNat_lit, decide_eq_true, decide_eq_false, if_pos, if_neg, slA_len, slA_idx, slA_cells, flat_slA, one_slA, cells_slA, map_mid, strV_is, hp_get1, hp_get2, hp_get3, hp_set1, hp_set2, hp_set3, hp_old, hp_sold, set_got, set_set, set_next, set_other, bytesL, bytes_all, List.length_map, aapp_nils, aapp_wr, List.flatMap_cons, List.flatMap_nil, Nat.mul_one]
  refine skip_a (u := u) (ln := ln) ((hp_old hn0).trans hg0) (by omega) (by omega) ?_
  generalize hl1 : ln + (lns u - lns (skipL u).1) = ln1 at *
  generalize skipL u = p at *
  obtain ⟨u1, ok⟩ := p
  simp only at hsuf htk hrd hl1
  have hvl := slat_len hv
  rw [List.length_map] at hvl
  simp only [retTo_is, go_sem, Nat.reduceLeDiff, Nat.reduceAdd, Nat.reduceSub, Nat.reduceMul, Nat.reduceLT, Int.reduceLT, Int.reduceLE, Int.reduceAdd, Int.reduceSub, Int.reduceMul, Int.reduceToNat, Int.reduceNeg, Int.reduceEq, Nat.reducePow, Int.reducePow, Nat.reduceEqDiff, decide_true, decide_false, reduceIte, reduceCtorEq, Int.reduceBEq, Int.reduceBNe, bne_self_eq_false, Int.cast_ofNat_Int, Bool.not_true, Bool.not_false, IntKind.bits]
  rw [hp_sold hn0]
  cases ok with
  | false =>
    rw [if_pos rfl] at hrd
    have hx := hend u1 ln1 [] ln1 6 hrd
    have hg3 := hgg u1 ln1 []
    simp only [rdr_is] at hx hg3 ⊢
    simp (maxSteps := 4000000) (disch := (first | omega | (simp only [set_next, List.length_append, List.length_cons, List.length_nil, List.length_take, List.length_drop, List.length_map, List.length_set, List.length_replicate]; omega) | (simp only [set_next, ne_eq, reduceCtorEq, not_false_eq_true]))) only [hg3, go_sem, Nat.reduceLeDiff, Nat.reduceAdd, Nat.reduceSub, Nat.reduceMul, Nat.reduceLT, Int.reduceLT, Int.reduceLE, Int.reduceAdd, Int.reduceSub, Int.reduceMul, Int.reduceToNat, Int.reduceNeg, Int.reduceEq, Nat.reducePow, Int.reducePow, Nat.reduceEqDiff, decide_true, decide_false, reduceIte, reduceCtorEq, Int.reduceBEq, Int.reduceBNe, bne_self_eq_false, Int.cast_ofNat_Int, Bool.not_true, Bool.not_false, IntKind.bits, w_nat, w_lit, w_add, w_addl, w_ladd, w_sub, w_subl, w_lsub, w_mul, w_mull, w_lmul, t_div, t_divl, t_mod, t_modl, i_lt, i_ltl, i_llt, i_le, i_lel, i_lle, i_eq, i_eql, i_leq, Nat.zero_le, d_beq, d_bne, d_bytes, byte_at, Int.toNat_natCast, toNat_lit, decide_eq_true, decide_eq_false, if_pos, if_neg, slA_len, slA_idx, slA_cells, flat_slA, one_slA, cells_slA, map_mid, strV_is, hp_get1, hp_get2, hp_get3, hp_set1, hp_set2, hp_set3, hp_old, hp_sold, set_got, set_set, set_next, set_other, bytesL, bytes_all, List.length_map, aapp_nils, aapp_wr, List.flatMap_cons, List.flatMap_nil, Nat.mul_one]
    exact hx
  | true =>
    rw [if_neg (by simp)] at hrd
    by_cases d1 : u1 = []
    · rw [if_pos d1] at hrd
      have hg3 := hgg u1 ln1 []
      have hv2 := slat_hp (slat_set (o := rdr u1 ln1) hv (Nat.lt_succ_self (H.next + 0))) []
      have hP := past_hp (past_set (i := H.next + 0) hG (Nat.le_add_right _ _) (rdr u1 ln1)) []
      obtain ⟨G2, kk, hS, hP2⟩ := slat_shut hv2 (lex_len out)
      have hP3 := hP2 H (Nat.le_succ _) hP
      subst d1
      have hx := h kk
      rw [← hrd] at hx
      simp only [rdr_is] at hg3 hS ⊢
      simp (maxSteps := 4000000) (disch := (first | omega | (simp only [set_next, List.length_append, List.length_cons, List.length_nil, List.length_take, List.length_drop, List.length_map, List.length_set, List.length_replicate]; omega) | (simp only [set_next, ne_eq, reduceCtorEq, not_false_eq_true]))) only [hg3, go_sem, Nat.reduceLeDiff, Nat.reduceAdd, Nat.reduceSub, Nat.reduceMul, Nat.reduceLT, Int.reduceLT, Int.reduceLE, Int.reduceAdd, Int.reduceSub, Int.reduceMul, Int.reduceToNat, Int.reduceNeg, Int.reduceEq, Nat.reducePow, Int.reducePow, Nat.reduceEqDiff, decide_true, decide_false, reduceIte, reduceCtorEq, Int.reduceBEq, Int.reduceBNe, bne_self_eq_false, Int.cast_ofNat_Int, Bool.not_true, Bool.not_false, IntKind.bits, w_nat, w_lit, w_add, w_addl, w_ladd, w_sub, w_subl, w_lsub, w_mul, w_mull, w_lmul, t_div, t_divl, t_mod, t_modl, i_lt, i_ltl, i_llt, i_le, i_lel, i_lle, i_eq, i_eql, i_leq, Nat.zero_le, d_beq, d_bne, d_bytes, byte_at, Int.toNat_natCast, toNat_lit, decide_eq_true, decide_eq_false, if_pos, if_neg, slA_len, slA_idx, slA_cells, flat_slA, one_slA, cells_slA, map_mid, strV_is, hp_get1, hp_get2, hp_get3, hp_set1, hp_set2, hp_set3, hp_old, hp_sold, set_got, set_set, set_next, set_other, bytesL, bytes_all, List.length_map, aapp_nils, aapp_wr, List.flatMap_cons, List.flatMap_nil, Nat.mul_one]
      exact aret_shut (.tup _ _ [] [.int .i64 0, .int .i64 0] _ _ hS) hP3 hs (by simp only [List.nil_append, u_tup, u_cons, u_nil, u_int, u_slA, and_true]; exact lex_u _ _) hx
    · rw [if_neg d1] at hrd
      by_cases d2 : out.length = 4096
      · rw [if_pos d2] at hrd
        have hx := hend u1 ln1 [] ln1 7 hrd
        have hg3 := hgg u1 ln1 []
        simp only [rdr_is] at hx hg3 ⊢
        simp (maxSteps := 4000000) (disch := (first | omega | (simp only [set_next, List.length_append, List.length_cons, List.length_nil, List.length_take, List.length_drop, List.length_map, List.length_set, List.length_replicate]; omega) | (simp only [set_next, ne_eq, reduceCtorEq, not_false_eq_true]))) only [hg3, d1, hvl, d2, go_sem, Nat.reduceLeDiff, Nat.reduceAdd, Nat.reduceSub, Nat.reduceMul, Nat.reduceLT, Int.reduceLT, Int.reduceLE, Int.reduceAdd, Int.reduceSub, Int.reduceMul, Int.reduceToNat, Int.reduceNeg, Int.reduceEq, Nat.reducePow, Int.reducePow, Nat.reduceEqDiff, decide_true, decide_false, reduceIte, reduceCtorEq, Int.reduceBEq, Int.reduceBNe, bne_self_eq_false, Int.cast_ofNat_Int, Bool.not_true, Bool.not_false, IntKind.bits, w_nat, w_lit, w_add, w_addl, w_ladd, w_sub, w_subl, w_lsub, w_mul, w_mull, w_lmul, t_div, t_divl, t_mod, t_modl, i_lt, i_ltl, i_llt, i_le, i_lel, i_lle, i_eq, i_eql, i_leq, Nat.zero_le, d_beq, d_bne, d_bytes, byte_at, Int.toNat_natCast, toNat_lit, decide_eq_true, decide_eq_false, if_pos, if_neg, slA_len, slA_idx, slA_cells, flat_slA, one_slA, cells_slA, map_mid, strV_is, hp_get1, hp_get2, hp_get3, hp_set1, hp_set2, hp_set3, hp_old, hp_sold, set_got, set_set, set_next, set_other, bytesL, bytes_all, List.length_map, aapp_nils, aapp_wr, List.flatMap_cons, List.flatMap_nil, Nat.mul_one]
        exact hx
      · rw [if_neg d2] at hrd
        have hg3 := hgg u1 ln1 []
        have hg4 := hg3
        simp only [rdr_is] at hg3
        rw [rdr_is]
        simp (maxSteps := 4000000) (disch := (first | omega | (simp only [set_next, List.length_append, List.length_cons, List.length_nil, List.length_take, List.length_drop, List.length_map, List.length_set, List.length_replicate]; omega) | (simp only [set_next, ne_eq, reduceCtorEq, not_false_eq_true]))) only [hg3, d1, hvl, d2, go_sem, Nat.reduceLeDiff, Nat.reduceAdd, Nat.reduceSub, Nat.reduceMul, Nat.reduceLT, Int.reduceLT, Int.reduceLE, Int.reduceAdd, Int.reduceSub, Int.reduceMul, Int.reduceToNat, Int.reduceNeg, Int.reduceEq, Nat.reducePow, Int.reducePow, Nat.reduceEqDiff, decide_true, decide_false, reduceIte, reduceCtorEq, Int.reduceBEq, Int.reduceBNe, bne_self_eq_false, Int.cast_ofNat_Int, Bool.not_true, Bool.not_false, IntKind.bits, w_nat, w_lit, w_add, w_addl, w_ladd, w_sub, w_subl, w_lsub, w_mul, w_mull, w_lmul, t_div, t_divl, t_mod, t_modl, i_lt, i_ltl, i_llt, i_le, i_lel, i_lle, i_eq, i_eql, i_leq, Nat.zero_le, d_beq, d_bne, d_bytes, byte_at, Int.toNat_natCast, toNat_lit, decide_eq_true, decide_eq_false, if_pos, if_neg, slA_len, slA_idx, slA_cells, flat_slA, one_slA, cells_slA, map_mid, strV_is, hp_get1, hp_get2, hp_get3, hp_set1, hp_set2, hp_set3, hp_old, hp_sold, set_got, set_set, set_next, set_other, bytesL, bytes_all, List.length_map, aapp_nils, aapp_wr, List.flatMap_cons, List.flatMap_nil, Nat.mul_one]
        rw [← rdr_is]
        refine next_a hg4 d1 (by omega) (by omega) (fun k t q hq => ?_) (fun hq => ?_)
        · rw [hq] at hrd
          simp only at hrd
          have hlt := htk _ _ _ hq
          simp only [retTo_is, go_sem, Nat.reduceLeDiff, Nat.reduceAdd, Nat.reduceSub, Nat.reduceMul, Nat.reduceLT, Int.reduceLT, Int.reduceLE, Int.reduceAdd, Int.reduceSub, Int.reduceMul, Int.reduceToNat, Int.reduceNeg, Int.reduceEq, Nat.reducePow, Int.reducePow, Nat.reduceEqDiff, decide_true, decide_false, reduceIte, reduceCtorEq, Int.reduceBEq, Int.reduceBNe, bne_self_eq_false, Int.cast_ofNat_Int, Bool.not_true, Bool.not_false, IntKind.bits]
          rw [hp_sold (by rw [set_next]; exact hn0), set_set]
          have hv3 := slat_hp (slat_set (o := rdr q ln1) hv (Nat.lt_succ_self (H.next + 0))) [.row 80 0 [.int .i64 (k : Int), .str (B t), .int .i64 (ln1 : Int)]]
          have hP := past_hp (past_set (i := H.next + 0) hG (Nat.le_add_right _ _) (rdr q ln1)) [.row 80 0 [.int .i64 (k : Int), .str (B t), .int .i64 (ln1 : Int)]]
          have hg5 := hgg q ln1 [.row 80 0 [.int .i64 (k : Int), .str (B t), .int .i64 (ln1 : Int)]]
          obtain ⟨v4, G4, hE, hv4, hbs⟩ := slat_app (b := 32) (ys := [lexV (k, t, ln1)]) hv3 (by rw [hp_next, set_next]; exact Nat.le_trans hGn (Nat.le_add_right _ _)) (lex_len out) (by rw [List.flatMap_cons, List.flatMap_nil, List.append_nil]; rfl) (by rw [List.length_map, List.length_singleton]; omega)
          have hP4 := beside_past hbs (Nat.le_succ _) hP
          have hg6 := (hbs.old (H.next + 0) (Nat.lt_succ_self _)).trans hg5
          have hn4 : H.next + 1 ≤ G4.next := Nat.le_trans (Nat.le_trans hGn (Nat.le_add_right _ _)) hbs.next
          rw [lexV_is] at hE
          simp only [lexV_is]
          simp (maxSteps := 4000000) (disch := (first | omega | (simp only [set_next, List.length_append, List.length_cons, List.length_nil, List.length_take, List.length_drop, List.length_map, List.length_set, List.length_replicate]; omega) | (simp only [set_next, ne_eq, reduceCtorEq, not_false_eq_true]))) only [hE, go_sem, Nat.reduceLeDiff, Nat.reduceAdd, Nat.reduceSub, Nat.reduceMul, Nat.reduceLT, Int.reduceLT, Int.reduceLE, Int.reduceAdd, Int.reduceSub, Int.reduceMul, Int.reduceToNat, Int.reduceNeg, Int.reduceEq, Nat.reducePow, Int.reducePow, Nat.reduceEqDiff, decide_true, decide_false, reduceIte, reduceCtorEq, Int.reduceBEq, Int.reduceBNe, bne_self_eq_false, Int.cast_ofNat_Int, Bool.not_true, Bool.not_false, IntKind.bits, w_nat, w_lit, w_add, w_addl, w_ladd, w_sub, w_subl, w_lsub, w_mul, w_mull, w_lmul, t_div, t_divl, t_mod, t_modl, i_lt, i_ltl, i_llt, i_le, i_lel, i_lle, i_eq, i_eql, i_leq, Nat.zero_le, d_beq, d_bne, d_bytes, byte_at, Int.toNat_natCast, toNat_lit, decide_eq_true, decide_eq_false, if_pos, if_neg, slA_len, slA_idx, slA_cells, flat_slA, one_slA, cells_slA, map_mid, strV_is, hp_get1, hp_get2, hp_get3, hp_set1, hp_set2, hp_set3, hp_old, hp_sold, set_got, set_set, set_next, set_other, bytesL, bytes_all, List.length_map, aapp_nils, aapp_wr, List.flatMap_cons, List.flatMap_nil, Nat.mul_one]
          refine hJ (G4, v4, out ++ [(k, t, ln1)], q, ln1) _ ⟨hP4, hn4, ?_, hg6, ?_, ?_, hrd⟩ ?_ (by (simp only [blurR_nil, blurR_some, blurR_none, blurC_region, blurC_regionN, blurC_fregion, blurT_nil, blurT_cons, blurC_seq, blurC_cond, blurC_block, blurC_loop, blurC_skip, blurC_exit, blurC_ret, tellS_nil, tellS_cons, List.set_cons_zero, List.set_cons_succ, tops_zero, tops_succ]; repeat first | exact forget_nil | apply forget_keep | apply forget_top))
          · show SlAt _ _ _ _ _ ((out ++ [(k, t, ln1)]).map lexV)
            rw [List.map_append]
            exact hv4
          · show q.length + ln1 ≤ _
            omega
          · show (out ++ [(k, t, ln1)]).length ≤ 4096
            rw [List.length_append, List.length_singleton]
            omega
          · show q.length < u.length
            omega
        · rw [hq] at hrd
          have hx := hend u1 ln1 [.row 80 0 [.int .i64 ((badX u1 ln1).1 : Int), .str (B (badX u1 ln1).2.1), .int .i64 ((badX u1 ln1).2.2 : Int)]] ln1 6 hrd
          have hg5 := hgg u1 ln1 [.row 80 0 [.int .i64 ((badX u1 ln1).1 : Int), .str (B (badX u1 ln1).2.1), .int .i64 ((badX u1 ln1).2.2 : Int)]]
          simp only [rdr_is] at hx hg5
          simp only [lexV_is, rdr_is]
          simp (maxSteps := 4000000) (disch := (first | omega | (simp only [set_next, List.length_append, List.length_cons, List.length_nil, List.length_take, List.length_drop, List.length_map, List.length_set, List.length_replicate]; omega) | (simp only [set_next, ne_eq, reduceCtorEq, not_false_eq_true]))) only [hg5, go_sem, Nat.reduceLeDiff, Nat.reduceAdd, Nat.reduceSub, Nat.reduceMul, Nat.reduceLT, Int.reduceLT, Int.reduceLE, Int.reduceAdd, Int.reduceSub, Int.reduceMul, Int.reduceToNat, Int.reduceNeg, Int.reduceEq, Nat.reducePow, Int.reducePow, Nat.reduceEqDiff, decide_true, decide_false, reduceIte, reduceCtorEq, Int.reduceBEq, Int.reduceBNe, bne_self_eq_false, Int.cast_ofNat_Int, Bool.not_true, Bool.not_false, IntKind.bits, w_nat, w_lit, w_add, w_addl, w_ladd, w_sub, w_subl, w_lsub, w_mul, w_mull, w_lmul, t_div, t_divl, t_mod, t_modl, i_lt, i_ltl, i_llt, i_le, i_lel, i_lle, i_eq, i_eql, i_leq, Nat.zero_le, d_beq, d_bne, d_bytes, byte_at, Int.toNat_natCast, toNat_lit, decide_eq_true, decide_eq_false, if_pos, if_neg, slA_len, slA_idx, slA_cells, flat_slA, one_slA, cells_slA, map_mid, strV_is, hp_get1, hp_get2, hp_get3, hp_set1, hp_set2, hp_set3, hp_old, hp_sold, set_got, set_set, set_next, set_other, bytesL, bytes_all, List.length_map, aapp_nils, aapp_wr, List.flatMap_cons, List.flatMap_nil, Nat.mul_one]
          exact hx
end
end Go.Proofs.Ytfilheaaacffmaa.AL

