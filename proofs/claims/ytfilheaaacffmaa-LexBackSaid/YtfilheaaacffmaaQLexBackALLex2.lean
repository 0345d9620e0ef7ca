/- Digits to the base 16, of one byte, told. -/
import Derived.Test.YtfilheaaacffmaaQLexBackALLex1
set_option linter.unusedSimpArgs false
set_option linter.unusedVariables false
set_option maxRecDepth 100000
set_option maxHeartbeats 16000000
namespace Go.Proofs.Ytfilheaaacffmaa.AL
open Go Go.Proofs
attribute [local go_sem] go_seq go_skip go_region go_regionN go_fregion rgF_some go_cond go_block go_exit go_ret nxt_nil nxt_code nxt_blk nxt_cut leave_nil leave_code leave_cut leave_blk rtn_nil rtn_code rtn_blk rtn_cut cnd_t cnd_f rgn_nil rgY_some rgY_none rgH_some rgP_some retTo_is rgV_func grd_und grd_tt grd_ff grd_tf grd_ft rgn_q rgn_alloc rgn_box rgn_store rgn_lit rgn_litw litCells_nil litCells_cons rgn_app rgn_copy rgn_mk rgn_s2b rgn_call rgn_callv rgn_stop rgn_slice3 aslice3 rgn_put rgn_mkmap rgn_lookup rgn_mapup alookup_nilm alookup_map amapup_map afound_ok afound_no rgn_c rgn_cv qclV_func aloadr rgn_guard post_ret post_normal retY_some ares aresL ares1 AX.ev aput List.getD_cons_zero List.getD_cons_succ List.set_cons_zero List.set_cons_succ List.map_cons List.map_nil aq abin aint astr abeq aconv asame aextract alenS alenL_nils alenL_emp alenL_imm alenL_wr aun apart aload afieldAddr afield aidxSl_wr aidxSl_imm aidxPt aidxStr aidxArr abound asliceStr asliceSl asliceArr abest anonil afill astore acells_nils acells_emp acells_imm acells_wr acells_str acopy litAll amk as2b anil nilOf aseq aeqs aeqv fits fit1 hp_next hp_push hp_get hp_set List.length_cons List.length_nil List.getElem?_cons_zero List.getElem?_cons_succ List.cons_append List.nil_append List.append_nil List.take_succ_cons List.take_zero List.drop_succ_cons List.drop_zero List.all_cons List.all_nil Option.map_some Option.some.injEq Bool.and_true Bool.true_and Bool.false_eq_true if_true if_false ite_true ite_false Bool.and_self true_and and_true and_self Nat.zero_add Nat.le_refl Int.toNat_natCast beq_self_eq_true eq_self tops_zero tops_succ Int.natCast_nonneg List.take_nil List.drop_nil Option.map_none flat_bool one_bool cells_bool flat_int one_int cells_int flat_str one_str cells_str flat_nilp one_nilp cells_nilp flat_ptr one_ptr cells_ptr flat_nils one_nils cells_nils flat_imm one_imm cells_imm flat_wr one_wr cells_wr flat_func one_func cells_func flat_nilf one_nilf cells_nilf flat_map one_map cells_map flat_nilm one_nilm cells_nilm flat_iface one_iface cells_iface flat_nili one_nili cells_nili flat_rd one_rd cells_rd flat_emp one_emp cells_emp flat_byteV one_byteV cells_byteV flat_agg cells_agg one_agg B_size B_list B_ext B_toList B_app List.take_length Int.le_refl
section
variable {H : AHeap} {K : AV → AHeap → Prop}
def hexD (n : Nat) : UInt8 := [48, 49, 50, 51, 52, 53, 54, 55, 56, 57, 97, 98, 99, 100, 101, 102].getD n 0
def hexs (c : UInt8) : List UInt8 := [hexD (c.toNat / 16), hexD (c.toNat % 16)]
theorem hexD_at {n : Nat} (h : n < 16) : [48, 49, 50, 51, 52, 53, 54, 55, 56, 57, 97, 98, 99, 100, 101, 102][n]? = some (hexD n) := byte_at (l := [48, 49, 50, 51, 52, 53, 54, 55, 56, 57, 97, 98, 99, 100, 101, 102]) (by simpa using h)
theorem and15 (c : UInt8) : bits .and .u8 (c.toNat : Int) 15 = ((c.toNat % 16 : Nat) : Int) := by
  have : ∀ m : Fin 256, bits .and .u8 (m.1 : Int) 15 = ((m.1 % 16 : Nat) : Int) := by decide
  exact this ⟨c.toNat, c.toNat_lt⟩
theorem b2s_one (H : AHeap) (l : List AObj) (e : TypeId) (i gen : Nat) (b : UInt8) (h : l[i]? = some (.row e gen [byteV b])) : ab2s (hp H l) (.wr (H.next + i) gen 0 1 1) = some (.str (B [b])) := b2s_wr H l e i gen [b] h
theorem b2s_two (H : AHeap) (l : List AObj) (e : TypeId) (i gen : Nat) (b d : UInt8) (h : l[i]? = some (.row e gen [byteV b, byteV d])) : ab2s (hp H l) (.wr (H.next + i) gen 0 2 1) = some (.str (B [b, d])) := b2s_wr H l e i gen [b, d] h
theorem hex_a {c : UInt8} (h : K (.str (B (hexs c))) H) : (ACalls Try.prog) 175 [.str (B [c])] H K := by
  refine acalls_go mo t175 (fun hs hu => ?_)
  have hc := c.toNat_lt
  have e1 : ashift false .u8 (c.toNat : Int) 4 = some (.int .u8 ((c.toNat / 16 : Nat) : Int)) := shr_u8 _ _ (by omega) (by omega)
  have e4 := and15 c
  have e5 := b2s_two H [.row 5 0 [byteV c], .row 5 0 [byteV (hexD (c.toNat / 16)), byteV (hexD (c.toNat % 16))]] 5 1 0 (hexD (c.toNat / 16)) (hexD (c.toNat % 16)) rfl
  simp only [byteV] at e5
  have e2 := hexD_at (n := c.toNat / 16) (by omega)
  have e3 := hexD_at (n := c.toNat % 16) (by omega)
  simp only [c175, go_sem, Nat.reduceLeDiff, Nat.reduceAdd, Nat.reduceSub, Nat.reduceMul, Nat.reduceLT, Int.reduceLT, Int.reduceLE, Int.reduceAdd, Int.reduceSub, Int.reduceMul, Int.reduceToNat, Int.reduceNeg, Int.reduceEq, Nat.reducePow, Int.reducePow, Nat.reduceEqDiff, decide_true, decide_false, reduceIte, reduceCtorEq, Int.reduceBEq, Int.reduceBNe, bne_self_eq_false, Int.cast_ofNat_Int, Bool.not_true, Bool.not_false, IntKind.bits]
  refine go_rounds mono 2 ?_
  simp only [rnds_succ, go_sem, Nat.reduceLeDiff, Nat.reduceAdd, Nat.reduceSub, Nat.reduceMul, Nat.reduceLT, Int.reduceLT, Int.reduceLE, Int.reduceAdd, Int.reduceSub, Int.reduceMul, Int.reduceToNat, Int.reduceNeg, Int.reduceEq, Nat.reducePow, Int.reducePow, Nat.reduceEqDiff, decide_true, decide_false, reduceIte, reduceCtorEq, Int.reduceBEq, Int.reduceBNe, bne_self_eq_false, Int.cast_ofNat_Int, Bool.not_true, Bool.not_false, IntKind.bits]
  simp (maxSteps := 4000000) (disch := (first | omega | (simp only [set_next, List.length_append, List.length_cons, List.length_nil, List.length_take, List.length_drop, List.length_map, List.length_set, List.length_replicate]; omega) | (simp only [set_next, ne_eq, reduceCtorEq, not_false_eq_true]))) only [byteV, e1, e2, e3, e4, e5, rnds_succ, List.flatMap_cons, List.flatMap_nil, go_sem, Nat.reduceLeDiff, Nat.reduceAdd, Nat.reduceSub, Nat.reduceMul, Nat.reduceLT, Int.reduceLT, Int.reduceLE, Int.reduceAdd, Int.reduceSub, Int.reduceMul, Int.reduceToNat, Int.reduceNeg, Int.reduceEq, Nat.reducePow, Int.reducePow, Nat.reduceEqDiff, decide_true, decide_false, reduceIte, reduceCtorEq, Int.reduceBEq, Int.reduceBNe, bne_self_eq_false, Int.cast_ofNat_Int, Bool.not_true, Bool.not_false, IntKind.bits, w_nat, w_lit, w_add, w_addl, w_ladd, w_sub, w_subl, w_lsub, w_mul, w_mull, w_lmul, t_div, t_divl, t_mod, t_modl, i_lt, i_ltl, i_llt, i_le, i_lel, i_lle, i_eq, i_eql, i_leq, Nat.zero_le, d_beq, d_bne, d_bytes, byte_at, Int.toNat_natCast, toNat_lit, decide_eq_true, decide_eq_false, if_pos, if_neg, slA_len, slA_idx, slA_cells, flat_slA, one_slA, cells_slA, map_mid, strV_is, hp_get1, hp_get2, hp_get3, hp_set1, hp_set2, hp_set3, hp_old, hp_sold, set_got, set_set, set_next, set_other, bytesL, bytes_all, List.length_map, aapp_nils, aapp_wr, List.flatMap_cons, List.flatMap_nil, Nat.mul_one]
  unfold hexs at h
  exact aret_plain hs (by simp only [u_top, u_bool, u_int, u_str, u_nilp, u_nils, u_nilf, u_nilm, u_nili, u_emp, u_byteV, u_ptr, u_wr, u_agg, u_tup, u_rd, u_imm, u_func, u_nil, u_cons, u_app, uc_nil, uc_cons, uc_app, u_bytes, uc_bytes, u_ints, uc_ints, cells_bool, cells_int, cells_str, cells_agg, cells_ptr, cells_nils, cells_imm, cells_wr, cells_nilp, cells_nilf, cells_nilm, cells_rd, cells_emp, cells_byteV, cells_func, and_self, and_true, true_and, u_slA, uc_strs, cells_slA, strV_is]) (h)
theorem dig_ib (c : UInt8) : Lib.indexByte [48, 49, 50, 51, 52, 53, 54, 55, 56, 57, 97, 98, 99, 100, 101, 102] c = match digN c with
    | some n => (n : Int)
    | none => -1 := by
  have : ∀ c : Fin 256, Lib.indexByte [48, 49, 50, 51, 52, 53, 54, 55, 56, 57, 97, 98, 99, 100, 101, 102] (UInt8.ofNat c.1) = match digN (UInt8.ofNat c.1) with
    | some n => (n : Int)
    | none => -1 := by decide
  have h := this ⟨c.toNat, c.toNat_lt⟩
  simpa using h
theorem dig_lt {c : UInt8} {n : Nat} (h : digN c = some n) : n < 16 := by
  unfold digN at h
  split at h
  · rename_i h1
    cases h
    have := UInt8.le_iff_toNat_le.1 h1.2
    simp at this
    omega
  · split at h
    · rename_i h1
      cases h
      have := UInt8.le_iff_toNat_le.1 h1.2
      simp at this
      omega
    · cases h
theorem dig_hexD {i : Nat} (h : i < 16) : digN (hexD i) = some i := by
  have : ∀ m : Fin 16, digN (hexD m.1) = some m.1 := by decide
  exact this ⟨i, h⟩
theorem shl4 {x : Nat} (hx : x < 16) : ashift true .i64 (x : Int) 4 = some (.int .i64 ((16 * x : Nat) : Int)) := by
  rw [shl_i64 _ _ (by omega) (by omega), show (x : Int) * 2 ^ (4 : Int).toNat = ((16 * x : Nat) : Int) by simp; omega, w_nat (by omega)]
theorem or4 {x y : Nat} (hx : x < 16) (hy : y < 16) : bits .or .i64 ((16 * x : Nat) : Int) (y : Int) = ((16 * x + y : Nat) : Int) := by
  have : ∀ m n : Fin 16, bits .or .i64 ((16 * m.1 : Nat) : Int) (n.1 : Int) = ((16 * m.1 + n.1 : Nat) : Int) := by decide
  exact this ⟨x, hx⟩ ⟨y, hy⟩
theorem wrap4 {x y : Nat} (hx : x < 16) (hy : y < 16) : AV.int .u8 (IntKind.wrap .u8 ((16 * x + y : Nat) : Int)) = byteV (UInt8.ofNat (16 * x + y)) := by
  rw [byte_wrap, b8]
  congr 2
  omega
def hexV : Option UInt8 → AV
  | some b => .tup [.str (B [b]), .bool true]
  | none => .tup [.str (B []), .bool false]
theorem unhex_a {a b : UInt8} (h : K (hexV (hex2 a b)) H) : (ACalls Try.prog) 187 [.str (B [a, b])] H K := by
  refine acalls_go mo t187 (fun hs hu => ?_)
  have hi := fun (c : UInt8) (H2 : AHeap) (K2 : AV → AHeap → Prop) => indexByte_a (l := [48, 49, 50, 51, 52, 53, 54, 55, 56, 57, 97, 98, 99, 100, 101, 102]) (c := c) (H := H2) (K := K2)
  simp only [dig_ib] at hi
  unfold hex2 at h
  have la := @dig_lt a
  have lb := @dig_lt b
  simp only [c187, go_sem, Nat.reduceLeDiff, Nat.reduceAdd, Nat.reduceSub, Nat.reduceMul, Nat.reduceLT, Int.reduceLT, Int.reduceLE, Int.reduceAdd, Int.reduceSub, Int.reduceMul, Int.reduceToNat, Int.reduceNeg, Int.reduceEq, Nat.reducePow, Int.reducePow, Nat.reduceEqDiff, decide_true, decide_false, reduceIte, reduceCtorEq, Int.reduceBEq, Int.reduceBNe, bne_self_eq_false, Int.cast_ofNat_Int, Bool.not_true, Bool.not_false, IntKind.bits]
  refine go_rounds mono 2 ?_
  simp only [rnds_succ, go_sem, Nat.reduceLeDiff, Nat.reduceAdd, Nat.reduceSub, Nat.reduceMul, Nat.reduceLT, Int.reduceLT, Int.reduceLE, Int.reduceAdd, Int.reduceSub, Int.reduceMul, Int.reduceToNat, Int.reduceNeg, Int.reduceEq, Nat.reducePow, Int.reducePow, Nat.reduceEqDiff, decide_true, decide_false, reduceIte, reduceCtorEq, Int.reduceBEq, Int.reduceBNe, bne_self_eq_false, Int.cast_ofNat_Int, Bool.not_true, Bool.not_false, IntKind.bits]
  refine hi a _ _ ?_
  simp (maxSteps := 4000000) (disch := (first | omega | (simp only [set_next, List.length_append, List.length_cons, List.length_nil, List.length_take, List.length_drop, List.length_map, List.length_set, List.length_replicate]; omega) | (simp only [set_next, ne_eq, reduceCtorEq, not_false_eq_true]))) only [go_sem, Nat.reduceLeDiff, Nat.reduceAdd, Nat.reduceSub, Nat.reduceMul, Nat.reduceLT, Int.reduceLT, Int.reduceLE, Int.reduceAdd, Int.reduceSub, Int.reduceMul, Int.reduceToNat, Int.reduceNeg, Int.reduceEq, Nat.reducePow, Int.reducePow, Nat.reduceEqDiff, decide_true, decide_false, reduceIte, reduceCtorEq, Int.reduceBEq, Int.reduceBNe, bne_self_eq_false, Int.cast_ofNat_Int, Bool.not_true, Bool.not_false, IntKind.bits, w_nat, w_lit, w_add, w_addl, w_ladd, w_sub, w_subl, w_lsub, w_mul, w_mull, w_lmul, t_div, t_divl, t_mod, t_modl, i_lt, i_ltl, i_llt, i_le, i_lel, i_lle, i_eq, i_eql, i_leq, Nat.zero_le, d_beq, d_bne, d_bytes, byte_at, Int.toNat_natCast, toNat_lit, decide_eq_true, decide_eq_false, if_pos, if_neg, slA_len, slA_idx, slA_cells, flat_slA, one_slA, cells_slA, map_mid, strV_is, hp_get1, hp_get2, hp_get3, hp_set1, hp_set2, hp_set3, hp_old, hp_sold, set_got, set_set, set_next, set_other, bytesL, bytes_all, List.length_map, aapp_nils, aapp_wr, List.flatMap_cons, List.flatMap_nil, Nat.mul_one]
  refine hi b _ _ ?_
  cases ea : digN a with
  | none =>
    rw [ea] at h
    have h : K (.tup [.str (B []), .bool false]) H := h
    simp (maxSteps := 4000000) (disch := (first | omega | (simp only [set_next, List.length_append, List.length_cons, List.length_nil, List.length_take, List.length_drop, List.length_map, List.length_set, List.length_replicate]; omega) | (simp only [set_next, ne_eq, reduceCtorEq, not_false_eq_true]))) only [go_sem, Nat.reduceLeDiff, Nat.reduceAdd, Nat.reduceSub, Nat.reduceMul, Nat.reduceLT, Int.reduceLT, Int.reduceLE, Int.reduceAdd, Int.reduceSub, Int.reduceMul, Int.reduceToNat, Int.reduceNeg, Int.reduceEq, Nat.reducePow, Int.reducePow, Nat.reduceEqDiff, decide_true, decide_false, reduceIte, reduceCtorEq, Int.reduceBEq, Int.reduceBNe, bne_self_eq_false, Int.cast_ofNat_Int, Bool.not_true, Bool.not_false, IntKind.bits, w_nat, w_lit, w_add, w_addl, w_ladd, w_sub, w_subl, w_lsub, w_mul, w_mull, w_lmul, t_div, t_divl, t_mod, t_modl, i_lt, i_ltl, i_llt, i_le, i_lel, i_lle, i_eq, i_eql, i_leq, Nat.zero_le, d_beq, d_bne, d_bytes, byte_at, Int.toNat_natCast, toNat_lit, decide_eq_true, decide_eq_false, if_pos, if_neg, slA_len, slA_idx, slA_cells, flat_slA, one_slA, cells_slA, map_mid, strV_is, hp_get1, hp_get2, hp_get3, hp_set1, hp_set2, hp_set3, hp_old, hp_sold, set_got, set_set, set_next, set_other, bytesL, bytes_all, List.length_map, aapp_nils, aapp_wr, List.flatMap_cons, List.flatMap_nil, Nat.mul_one]
    exact aret_plain hs (by simp only [u_top, u_bool, u_int, u_str, u_nilp, u_nils, u_nilf, u_nilm, u_nili, u_emp, u_byteV, u_ptr, u_wr, u_agg, u_tup, u_rd, u_imm, u_func, u_nil, u_cons, u_app, uc_nil, uc_cons, uc_app, u_bytes, uc_bytes, u_ints, uc_ints, cells_bool, cells_int, cells_str, cells_agg, cells_ptr, cells_nils, cells_imm, cells_wr, cells_nilp, cells_nilf, cells_nilm, cells_rd, cells_emp, cells_byteV, cells_func, and_self, and_true, true_and, u_slA, uc_strs, cells_slA, strV_is]) (h)
  | some x =>
    cases eb : digN b with
    | none =>
      rw [ea, eb] at h
      have h : K (.tup [.str (B []), .bool false]) H := h
      simp (maxSteps := 4000000) (disch := (first | omega | (simp only [set_next, List.length_append, List.length_cons, List.length_nil, List.length_take, List.length_drop, List.length_map, List.length_set, List.length_replicate]; omega) | (simp only [set_next, ne_eq, reduceCtorEq, not_false_eq_true]))) only [go_sem, Nat.reduceLeDiff, Nat.reduceAdd, Nat.reduceSub, Nat.reduceMul, Nat.reduceLT, Int.reduceLT, Int.reduceLE, Int.reduceAdd, Int.reduceSub, Int.reduceMul, Int.reduceToNat, Int.reduceNeg, Int.reduceEq, Nat.reducePow, Int.reducePow, Nat.reduceEqDiff, decide_true, decide_false, reduceIte, reduceCtorEq, Int.reduceBEq, Int.reduceBNe, bne_self_eq_false, Int.cast_ofNat_Int, Bool.not_true, Bool.not_false, IntKind.bits, w_nat, w_lit, w_add, w_addl, w_ladd, w_sub, w_subl, w_lsub, w_mul, w_mull, w_lmul, t_div, t_divl, t_mod, t_modl, i_lt, i_ltl, i_llt, i_le, i_lel, i_lle, i_eq, i_eql, i_leq, Nat.zero_le, d_beq, d_bne, d_bytes, byte_at, Int.toNat_natCast, toNat_lit, decide_eq_true, decide_eq_false, if_pos, if_neg, slA_len, slA_idx, slA_cells, flat_slA, one_slA, cells_slA, map_mid, strV_is, hp_get1, hp_get2, hp_get3, hp_set1, hp_set2, hp_set3, hp_old, hp_sold, set_got, set_set, set_next, set_other, bytesL, bytes_all, List.length_map, aapp_nils, aapp_wr, List.flatMap_cons, List.flatMap_nil, Nat.mul_one]
      exact aret_plain hs (by simp only [u_top, u_bool, u_int, u_str, u_nilp, u_nils, u_nilf, u_nilm, u_nili, u_emp, u_byteV, u_ptr, u_wr, u_agg, u_tup, u_rd, u_imm, u_func, u_nil, u_cons, u_app, uc_nil, uc_cons, uc_app, u_bytes, uc_bytes, u_ints, uc_ints, cells_bool, cells_int, cells_str, cells_agg, cells_ptr, cells_nils, cells_imm, cells_wr, cells_nilp, cells_nilf, cells_nilm, cells_rd, cells_emp, cells_byteV, cells_func, and_self, and_true, true_and, u_slA, uc_strs, cells_slA, strV_is]) (h)
    | some y =>
      rw [ea, eb] at h
      have h : K (.tup [.str (B [UInt8.ofNat (16 * x + y)]), .bool true]) H := h
      have hx := la ea
      have hy := lb eb
      have e1 := shl4 hx
      have e2 := or4 hx hy
      have e3 := wrap4 hx hy
      have e4 := b2s_one H [.row 5 0 [byteV (UInt8.ofNat (16 * x + y))]] 5 0 0 (UInt8.ofNat (16 * x + y)) rfl
      simp (maxSteps := 4000000) (disch := (first | omega | (simp only [set_next, List.length_append, List.length_cons, List.length_nil, List.length_take, List.length_drop, List.length_map, List.length_set, List.length_replicate]; omega) | (simp only [set_next, ne_eq, reduceCtorEq, not_false_eq_true]))) only [e1, e2, e3, e4, rnds_succ, List.flatMap_cons, List.flatMap_nil, go_sem, Nat.reduceLeDiff, Nat.reduceAdd, Nat.reduceSub, Nat.reduceMul, Nat.reduceLT, Int.reduceLT, Int.reduceLE, Int.reduceAdd, Int.reduceSub, Int.reduceMul, Int.reduceToNat, Int.reduceNeg, Int.reduceEq, Nat.reducePow, Int.reducePow, Nat.reduceEqDiff, decide_true, decide_false, reduceIte, reduceCtorEq, Int.reduceBEq, Int.reduceBNe, bne_self_eq_false, Int.cast_ofNat_Int, Bool.not_true, Bool.not_false, IntKind.bits, w_nat, w_lit, w_add, w_addl, w_ladd, w_sub, w_subl, w_lsub, w_mul, w_mull, w_lmul, t_div, t_divl, t_mod, t_modl, i_lt, i_ltl, i_llt, i_le, i_lel, i_lle, i_eq, i_eql, i_leq, Nat.zero_le, d_beq, d_bne, d_bytes, byte_at, Int.toNat_natCast, toNat_lit, decide_eq_true, decide_eq_false, if_pos, if_neg, slA_len, slA_idx, slA_cells, flat_slA, one_slA, cells_slA, map_mid, strV_is, hp_get1, hp_get2, hp_get3, hp_set1, hp_set2, hp_set3, hp_old, hp_sold, set_got, set_set, set_next, set_other, bytesL, bytes_all, List.length_map, aapp_nils, aapp_wr, List.flatMap_cons, List.flatMap_nil, Nat.mul_one]
      exact aret_plain hs (by simp only [u_top, u_bool, u_int, u_str, u_nilp, u_nils, u_nilf, u_nilm, u_nili, u_emp, u_byteV, u_ptr, u_wr, u_agg, u_tup, u_rd, u_imm, u_func, u_nil, u_cons, u_app, uc_nil, uc_cons, uc_app, u_bytes, uc_bytes, u_ints, uc_ints, cells_bool, cells_int, cells_str, cells_agg, cells_ptr, cells_nils, cells_imm, cells_wr, cells_nilp, cells_nilf, cells_nilm, cells_rd, cells_emp, cells_byteV, cells_func, and_self, and_true, true_and, u_slA, uc_strs, cells_slA, strV_is]) (h)
end
end Go.Proofs.Ytfilheaaacffmaa.AL

