/- What is written to bytes that are 0xff is there. -/
import Derived.Test.YtblflecalomgfaaALNor10
set_option linter.unusedSimpArgs false
set_option linter.unusedVariables false
set_option maxRecDepth 100000
namespace Go.Proofs.Ytblflecalomgfaa.AL
open Go Go.Proofs
attribute [local go_sem] go_seq go_skip go_region go_regionN go_cond go_block go_exit go_ret nxt_nil nxt_code nxt_blk nxt_cut leave_nil leave_code leave_cut leave_blk rtn_nil rtn_code rtn_blk rtn_cut cnd_t cnd_f rgn_nil rgY_some rgY_none rgH_some rgP_some retTo_is rgV_func grd_und grd_tt grd_ff grd_tf grd_ft rgn_q rgn_alloc rgn_box rgn_store rgn_lit rgn_litw litCells_nil litCells_cons rgn_app rgn_copy rgn_mk rgn_s2b rgn_call rgn_callv rgn_stop rgn_slice3 aslice3 rgn_put rgn_mkmap rgn_lookup rgn_mapup alookup_nilm alookup_map amapup_map afound_ok afound_no rgn_c rgn_cv qclV_func aloadr rgn_guard post_ret post_normal retY_some ares aresL ares1 AX.ev aput List.getD_cons_zero List.getD_cons_succ List.set_cons_zero List.set_cons_succ List.map_cons List.map_nil aq abin aint astr abeq aconv asame aextract alenS alenL_nils alenL_emp alenL_imm alenL_wr aun apart aload afieldAddr afield aidxSl_wr aidxSl_imm aidxPt aidxStr aidxArr abound asliceStr asliceSl asliceArr abest anonil afill astore acells_nils acells_emp acells_imm acells_wr acells_str acopy litAll amk as2b anil nilOf aseq aeqs aeqv fits fit1 hp_next hp_push hp_get hp_set List.length_cons List.length_nil List.getElem?_cons_zero List.getElem?_cons_succ List.cons_append List.nil_append List.append_nil List.take_succ_cons List.take_zero List.drop_succ_cons List.drop_zero List.all_cons List.all_nil Option.map_some Option.some.injEq Bool.and_true Bool.true_and Bool.false_eq_true if_true if_false ite_true ite_false Bool.and_self true_and and_true and_self Nat.zero_add Nat.le_refl Int.toNat_natCast beq_self_eq_true eq_self tops_zero tops_succ Int.natCast_nonneg List.take_nil List.drop_nil Option.map_none flat_bool one_bool cells_bool flat_int one_int cells_int flat_str one_str cells_str flat_nilp one_nilp cells_nilp flat_ptr one_ptr cells_ptr flat_nils one_nils cells_nils flat_imm one_imm cells_imm flat_wr one_wr cells_wr flat_func one_func cells_func flat_nilf one_nilf cells_nilf flat_map one_map cells_map flat_nilm one_nilm cells_nilm flat_iface one_iface cells_iface flat_nili one_nili cells_nili flat_rd one_rd cells_rd flat_emp one_emp cells_emp flat_byteV one_byteV cells_byteV flat_agg cells_agg one_agg B_size B_list B_ext B_toList B_app List.take_length Int.le_refl
structure Calm (x : Chp) : Prop where
  on : x.on = true
  fuse : x.fuse = -1
  len : x.l.length = 24576
theorem Calm.blown {x : Chp} (h : Calm x) : x.blown = false := by unfold Chp.blown; rw [if_pos h.fuse]
theorem Calm.blow {x : Chp} (h : Calm x) : x.blow = { x with ops := wo (x.ops + 1) } := by unfold Chp.blow; rw [if_pos h.fuse]
theorem Calm.doE {x : Chp} (h : Calm x) : x.doE = 0 := by unfold Chp.doE; rw [h.blown]; rfl
theorem Calm.doC {x : Chp} (h : Calm x) (i n : Nat) (f : Nat → UInt8 → UInt8) (g : Nat → UInt8 → UInt8 → UInt8) : Calm (x.doC i n f g) ∧ (x.doC i n f g).l = mapAt i f x.l n := by
  have h1 : x.doC i n f g = { x.blow with l := mapAt i f x.l n } := by unfold Chp.doC; rw [h.blown]; rfl
  rw [h1, h.blow]
  exact ⟨⟨h.on, h.fuse, by rw [mapAt_len]; exact h.len⟩, rfl⟩
theorem hasN_of {i n : Nat} (h : i + n ≤ 24576) : hasN (i : Int) (n : Int) = true := by
  unfold hasN
  exact decide_eq_true ⟨by omega, by omega, by omega, by omega⟩
theorem Calm.prog {x : Chp} (h : Calm x) {i : Nat} {t : List UInt8} (h1 : t ≠ []) (h2 : i % 32 + t.length ≤ 32) (h3 : i + t.length ≤ 24576) : (x.prog (i : Int) t).2 = 0 ∧ Calm (x.prog (i : Int) t).1 ∧ (x.prog (i : Int) t).1.l = mapAt i (prF t) x.l t.length := by
  have hp : x.prog (i : Int) t = (x.doC i t.length (prF t) (prG t), x.doE) := by
    unfold Chp.prog
    rw [if_pos h.on, if_neg (by rintro (h4 | h4); exact h1 h4; omega), if_pos (hasN_of h3), Int.toNat_natCast, if_neg (by omega)]
  rw [hp]
  exact ⟨h.doE, (h.doC _ _ _ _).1, (h.doC _ _ _ _).2⟩
theorem wr_calm : ∀ (m : Nat) (s : List UInt8) (x : Chp) (i : Nat), s.length ≤ m → Calm x → i + s.length ≤ 24576 → (x.wr i s).2 = 0 ∧ Calm (x.wr i s).1 ∧ ∀ j, (x.wr i s).1.l.getD j 0 = if i ≤ j ∧ j < i + s.length then x.l.getD j 0 &&& s.getD (j - i) 0 else x.l.getD j 0
  | 0, s, x, i, hm, hc, hi => by
    have hs : s = [] := List.eq_nil_of_length_eq_zero (by omega)
    subst hs
    rw [Chp.wr, dif_pos rfl]
    refine ⟨rfl, hc, fun j => ?_⟩
    rw [if_neg (by simp)]
  | m + 1, s, x, i, hm, hc, hi => by
    by_cases hs : s = []
    · subst hs
      rw [Chp.wr, dif_pos rfl]
      refine ⟨rfl, hc, fun j => ?_⟩
      rw [if_neg (by simp)]
    · have hp := page_pos i hs
      have hp2 : page i s ≤ s.length := Nat.min_le_left _ _
      have hp3 : page i s ≤ 32 - i % 32 := Nat.min_le_right _ _
      have hmod : i % 32 < 32 := Nat.mod_lt _ (by omega)
      rw [Chp.wr, dif_neg hs]
      generalize page i s = n at *
      have htl : (s.take n).length = n := by simp; omega
      have hne : s.take n ≠ [] := fun h => by rw [h] at htl; simp at htl; omega
      obtain ⟨q1, q2, q3⟩ := hc.prog (i := i) hne (by omega) (by omega)
      rw [if_pos q1]
      generalize x.prog (i : Int) (s.take n) = q at *
      obtain ⟨r1, r2, r3⟩ := wr_calm m (s.drop n) q.1 (i + n) (by simp; omega) q2 (by simp; omega)
      refine ⟨r1, r2, fun j => ?_⟩
      rw [r3 j, q3, htl, mapAt_get _ _ _ _ _ (by rw [hc.len]; omega)]
      simp only [List.length_drop, getD_drop, prF, getD_take]
      by_cases a1 : i ≤ j ∧ j < i + n
      · rw [if_neg (by omega), if_pos a1, if_pos (by omega), if_pos (by omega)]
      · rw [if_neg a1]
        by_cases a2 : i + n ≤ j ∧ j < i + s.length
        · rw [if_pos (by omega), if_pos (by omega), show n + (j - (i + n)) = j - i by omega]
        · rw [if_neg (by omega), if_neg (by omega)]
theorem Calm.erase {x : Chp} (h : Calm x) {k : Nat} (hk : k < 48) : (x.erase (k : Int)).2 = 0 ∧ Calm (x.erase (k : Int)).1 ∧ ∀ j, (x.erase (k : Int)).1.l.getD j 0 = if k * 512 ≤ j ∧ j < k * 512 + 512 then 255 else x.l.getD j 0 := by
  have hp : x.erase (k : Int) = (x.doC (k * 512) 512 erF erG, x.doE) := by
    unfold Chp.erase
    rw [if_pos h.on, if_neg (by omega), Int.toNat_natCast]
  rw [hp]
  refine ⟨h.doE, (h.doC _ _ _ _).1, fun j => ?_⟩
  show (x.doC (k * 512) 512 erF erG).l.getD j 0 = _
  rw [(h.doC _ _ _ _).2, mapAt_get _ _ _ _ _ (by rw [h.len]; omega)]
  rfl
theorem Calm.write {x : Chp} (h : Calm x) {i : Nat} {s : List UInt8} (hi : i + s.length ≤ 24576) : (x.write (i : Int) s).2 = 0 ∧ Calm (x.write (i : Int) s).1 ∧ ∀ j, (x.write (i : Int) s).1.l.getD j 0 = if i ≤ j ∧ j < i + s.length then x.l.getD j 0 &&& s.getD (j - i) 0 else x.l.getD j 0 := by
  have hp : x.write (i : Int) s = x.wr i s := by
    unfold Chp.write
    rw [if_pos h.on, if_pos (hasN_of hi), Int.toNat_natCast]
  rw [hp]
  exact wr_calm _ s x i (Nat.le_refl _) h hi
theorem chp0_calm {s : List UInt8} (h : s.length ≤ 24576) : Calm (chp0 s) := ⟨rfl, rfl, loadL_len h⟩
theorem norWrites_a (sector at_ : Nat) (hsec : sector < 256) (hat : at_ < 65536) (s : List UInt8) {H : AHeap} : (ACalls Try.prog) 5 [.int .u8 (sector : Int), .int .u16 (at_ : Int), .str (B s)] H (fun y _ => y = .bool true) := by
  refine acalls_go mo t5 (fun hs hu => ?_)
  simp only [c5, go_sem, Nat.reduceLeDiff, Nat.reduceAdd, Nat.reduceSub, Nat.reduceMul, Nat.reduceLT, Int.reduceLT, Int.reduceLE, Int.reduceAdd, Int.reduceSub, Int.reduceMul, Int.reduceToNat, Int.reduceNeg, Int.reduceEq, Nat.reducePow, Int.reducePow, Nat.reduceEqDiff, decide_true, decide_false, reduceIte, reduceCtorEq, Int.reduceBEq, Int.reduceBNe, bne_self_eq_false, Int.cast_ofNat_Int, Bool.not_true, Bool.not_false, IntKind.bits]
  by_cases h1 : 200 < s.length
  · simp (maxSteps := 4000000) (disch := (first | omega | (simp only [set_next, List.length_append, List.length_cons, List.length_nil, List.length_take, List.length_drop, List.length_map, List.length_set, List.length_replicate]; omega) | (simp only [set_next, ne_eq, reduceCtorEq, not_false_eq_true]))) only [go_sem, Nat.reduceLeDiff, Nat.reduceAdd, Nat.reduceSub, Nat.reduceMul, Nat.reduceLT, Int.reduceLT, Int.reduceLE, Int.reduceAdd, Int.reduceSub, Int.reduceMul, Int.reduceToNat, Int.reduceNeg, Int.reduceEq, Nat.reducePow, Int.reducePow, Nat.reduceEqDiff, decide_true, decide_false, reduceIte, reduceCtorEq, Int.reduceBEq, Int.reduceBNe, bne_self_eq_false, Int.cast_ofNat_Int, Bool.not_true, Bool.not_false, IntKind.bits, w_nat, w_lit, w_add, w_addl, w_ladd, w_sub, w_subl, w_lsub, w_mul, w_mull, w_lmul, t_div, t_divl, t_mod, t_modl, i_lt, i_ltl, i_llt, i_le, i_lel, i_lle, i_eq, i_eql, i_leq, Nat.zero_le, d_beq, d_bne, d_bytes, byte_at, Int.toNat_natCast, toNat_lit, decide_eq_true, decide_eq_false, if_pos, if_neg, slA_len, slA_idx, slA_cells, flat_slA, one_slA, cells_slA, map_mid, strV_is, hp_get1, hp_get2, hp_get3, hp_set1, hp_set2, hp_set3, hp_old, hp_sold, set_got, set_set, set_next, set_other, bytesL, bytes_all, List.length_map, aapp_nils, aapp_wr, List.flatMap_cons, List.flatMap_nil, Nat.mul_one]
    refine awake_a ?_
    simp (maxSteps := 4000000) (disch := (first | omega | (simp only [set_next, List.length_append, List.length_cons, List.length_nil, List.length_take, List.length_drop, List.length_map, List.length_set, List.length_replicate]; omega) | (simp only [set_next, ne_eq, reduceCtorEq, not_false_eq_true]))) only [go_sem, Nat.reduceLeDiff, Nat.reduceAdd, Nat.reduceSub, Nat.reduceMul, Nat.reduceLT, Int.reduceLT, Int.reduceLE, Int.reduceAdd, Int.reduceSub, Int.reduceMul, Int.reduceToNat, Int.reduceNeg, Int.reduceEq, Nat.reducePow, Int.reducePow, Nat.reduceEqDiff, decide_true, decide_false, reduceIte, reduceCtorEq, Int.reduceBEq, Int.reduceBNe, bne_self_eq_false, Int.cast_ofNat_Int, Bool.not_true, Bool.not_false, IntKind.bits, w_nat, w_lit, w_add, w_addl, w_ladd, w_sub, w_subl, w_lsub, w_mul, w_mull, w_lmul, t_div, t_divl, t_mod, t_modl, i_lt, i_ltl, i_llt, i_le, i_lel, i_lle, i_eq, i_eql, i_leq, Nat.zero_le, d_beq, d_bne, d_bytes, byte_at, Int.toNat_natCast, toNat_lit, decide_eq_true, decide_eq_false, if_pos, if_neg, slA_len, slA_idx, slA_cells, flat_slA, one_slA, cells_slA, map_mid, strV_is, hp_get1, hp_get2, hp_get3, hp_set1, hp_set2, hp_set3, hp_old, hp_sold, set_got, set_set, set_next, set_other, bytesL, bytes_all, List.length_map, aapp_nils, aapp_wr, List.flatMap_cons, List.flatMap_nil, Nat.mul_one]
    exact aret_plain hs (by simp only [u_top, u_bool, u_int, u_str, u_nilp, u_nils, u_nilf, u_nilm, u_nili, u_emp, u_byteV, u_ptr, u_wr, u_agg, u_tup, u_rd, u_imm, u_func, u_nil, u_cons, u_app, uc_nil, uc_cons, uc_app, u_bytes, uc_bytes, u_ints, uc_ints, cells_bool, cells_int, cells_str, cells_agg, cells_ptr, cells_nils, cells_imm, cells_wr, cells_nilp, cells_nilf, cells_nilm, cells_rd, cells_emp, cells_byteV, cells_func, and_self, and_true, true_and, u_slA, uc_strs, cells_slA, strV_is]) (rfl)
  · have k1 : sector % 47 < 47 := Nat.mod_lt _ (by omega)
    have k2 : at_ % 512 < 512 := Nat.mod_lt _ (by omega)
    simp (maxSteps := 4000000) (disch := (first | omega | (simp only [set_next, List.length_append, List.length_cons, List.length_nil, List.length_take, List.length_drop, List.length_map, List.length_set, List.length_replicate]; omega) | (simp only [set_next, ne_eq, reduceCtorEq, not_false_eq_true]))) only [go_sem, Nat.reduceLeDiff, Nat.reduceAdd, Nat.reduceSub, Nat.reduceMul, Nat.reduceLT, Int.reduceLT, Int.reduceLE, Int.reduceAdd, Int.reduceSub, Int.reduceMul, Int.reduceToNat, Int.reduceNeg, Int.reduceEq, Nat.reducePow, Int.reducePow, Nat.reduceEqDiff, decide_true, decide_false, reduceIte, reduceCtorEq, Int.reduceBEq, Int.reduceBNe, bne_self_eq_false, Int.cast_ofNat_Int, Bool.not_true, Bool.not_false, IntKind.bits, w_nat, w_lit, w_add, w_addl, w_ladd, w_sub, w_subl, w_lsub, w_mul, w_mull, w_lmul, t_div, t_divl, t_mod, t_modl, i_lt, i_ltl, i_llt, i_le, i_lel, i_lle, i_eq, i_eql, i_leq, Nat.zero_le, d_beq, d_bne, d_bytes, byte_at, Int.toNat_natCast, toNat_lit, decide_eq_true, decide_eq_false, if_pos, if_neg, slA_len, slA_idx, slA_cells, flat_slA, one_slA, cells_slA, map_mid, strV_is, hp_get1, hp_get2, hp_get3, hp_set1, hp_set2, hp_set3, hp_old, hp_sold, set_got, set_set, set_next, set_other, bytesL, bytes_all, List.length_map, aapp_nils, aapp_wr, List.flatMap_cons, List.flatMap_nil, Nat.mul_one]
    rw [hp_nil]
    refine load_a (s := [111, 108, 100]) (by simp) ?_
    rw [← chip_hp2 H (.map []) (.map []) [] (chp0 [111, 108, 100]), ← hp_nil (H := chipAt _ _ _ (chp0 [111, 108, 100]))]
    have hback : ∀ x, chipAt (hp H [.map [], .map []]) (H.next + 0) (H.next + 1) x = hp H [.row 5 0 (x.l.map byteV), .row 57 0 (x.row (H.next + 0))] := chip_hp2 H _ _ []
    have ok := chip_ok2 H (.map []) (.map []) []
    generalize hp H [.map [], .map []] = G at *
    generalize hb : H.next + 0 = b at *
    generalize hc : H.next + 1 = c at *
    have c0 := chp0_calm (s := [111, 108, 100]) (by simp)
    generalize chp0 [111, 108, 100] = x0 at *
    generalize hk : sector % 47 = k at *
    generalize hm : at_ % 512 = m at *
    simp (maxSteps := 4000000) (disch := (first | omega | (simp only [set_next, List.length_append, List.length_cons, List.length_nil, List.length_take, List.length_drop, List.length_map, List.length_set, List.length_replicate]; omega) | (simp only [set_next, ne_eq, reduceCtorEq, not_false_eq_true]))) only [go_sem, Nat.reduceLeDiff, Nat.reduceAdd, Nat.reduceSub, Nat.reduceMul, Nat.reduceLT, Int.reduceLT, Int.reduceLE, Int.reduceAdd, Int.reduceSub, Int.reduceMul, Int.reduceToNat, Int.reduceNeg, Int.reduceEq, Nat.reducePow, Int.reducePow, Nat.reduceEqDiff, decide_true, decide_false, reduceIte, reduceCtorEq, Int.reduceBEq, Int.reduceBNe, bne_self_eq_false, Int.cast_ofNat_Int, Bool.not_true, Bool.not_false, IntKind.bits, w_nat, w_lit, w_add, w_addl, w_ladd, w_sub, w_subl, w_lsub, w_mul, w_mull, w_lmul, t_div, t_divl, t_mod, t_modl, i_lt, i_ltl, i_llt, i_le, i_lel, i_lle, i_eq, i_eql, i_leq, Nat.zero_le, d_beq, d_bne, d_bytes, byte_at, Int.toNat_natCast, toNat_lit, decide_eq_true, decide_eq_false, if_pos, if_neg, slA_len, slA_idx, slA_cells, flat_slA, one_slA, cells_slA, map_mid, strV_is, hp_get1, hp_get2, hp_get3, hp_set1, hp_set2, hp_set3, hp_old, hp_sold, set_got, set_set, set_next, set_other, bytesL, bytes_all, List.length_map, aapp_nils, aapp_wr, List.flatMap_cons, List.flatMap_nil, Nat.mul_one]
    obtain ⟨-, c1, -⟩ := c0.write (i := k * 512 + m) (s := [111, 116, 104, 101, 114, 32, 98, 121, 116, 101, 115]) (by simp; omega)
    refine write_l (at_ := ((k * 512 + m : Nat) : Int)) (s := [111, 116, 104, 101, 114, 32, 98, 121, 116, 101, 115]) ok c0.len ?_
    generalize x0.write ((k * 512 + m : Nat) : Int) [111, 116, 104, 101, 114, 32, 98, 121, 116, 101, 115] = x1 at *
    simp (maxSteps := 4000000) (disch := (first | omega | (simp only [set_next, List.length_append, List.length_cons, List.length_nil, List.length_take, List.length_drop, List.length_map, List.length_set, List.length_replicate]; omega) | (simp only [set_next, ne_eq, reduceCtorEq, not_false_eq_true]))) only [go_sem, Nat.reduceLeDiff, Nat.reduceAdd, Nat.reduceSub, Nat.reduceMul, Nat.reduceLT, Int.reduceLT, Int.reduceLE, Int.reduceAdd, Int.reduceSub, Int.reduceMul, Int.reduceToNat, Int.reduceNeg, Int.reduceEq, Nat.reducePow, Int.reducePow, Nat.reduceEqDiff, decide_true, decide_false, reduceIte, reduceCtorEq, Int.reduceBEq, Int.reduceBNe, bne_self_eq_false, Int.cast_ofNat_Int, Bool.not_true, Bool.not_false, IntKind.bits, w_nat, w_lit, w_add, w_addl, w_ladd, w_sub, w_subl, w_lsub, w_mul, w_mull, w_lmul, t_div, t_divl, t_mod, t_modl, i_lt, i_ltl, i_llt, i_le, i_lel, i_lle, i_eq, i_eql, i_leq, Nat.zero_le, d_beq, d_bne, d_bytes, byte_at, Int.toNat_natCast, toNat_lit, decide_eq_true, decide_eq_false, if_pos, if_neg, slA_len, slA_idx, slA_cells, flat_slA, one_slA, cells_slA, map_mid, strV_is, hp_get1, hp_get2, hp_get3, hp_set1, hp_set2, hp_set3, hp_old, hp_sold, set_got, set_set, set_next, set_other, bytesL, bytes_all, List.length_map, aapp_nils, aapp_wr, List.flatMap_cons, List.flatMap_nil, Nat.mul_one]
    obtain ⟨e2, c2, g2⟩ := c1.erase (k := k) (by omega)
    refine erase_l ok c1.len ?_
    generalize x1.1.erase (k : Int) = x2 at *
    rw [e2]
    simp (maxSteps := 4000000) (disch := (first | omega | (simp only [set_next, List.length_append, List.length_cons, List.length_nil, List.length_take, List.length_drop, List.length_map, List.length_set, List.length_replicate]; omega) | (simp only [set_next, ne_eq, reduceCtorEq, not_false_eq_true]))) only [go_sem, Nat.reduceLeDiff, Nat.reduceAdd, Nat.reduceSub, Nat.reduceMul, Nat.reduceLT, Int.reduceLT, Int.reduceLE, Int.reduceAdd, Int.reduceSub, Int.reduceMul, Int.reduceToNat, Int.reduceNeg, Int.reduceEq, Nat.reducePow, Int.reducePow, Nat.reduceEqDiff, decide_true, decide_false, reduceIte, reduceCtorEq, Int.reduceBEq, Int.reduceBNe, bne_self_eq_false, Int.cast_ofNat_Int, Bool.not_true, Bool.not_false, IntKind.bits, w_nat, w_lit, w_add, w_addl, w_ladd, w_sub, w_subl, w_lsub, w_mul, w_mull, w_lmul, t_div, t_divl, t_mod, t_modl, i_lt, i_ltl, i_llt, i_le, i_lel, i_lle, i_eq, i_eql, i_leq, Nat.zero_le, d_beq, d_bne, d_bytes, byte_at, Int.toNat_natCast, toNat_lit, decide_eq_true, decide_eq_false, if_pos, if_neg, slA_len, slA_idx, slA_cells, flat_slA, one_slA, cells_slA, map_mid, strV_is, hp_get1, hp_get2, hp_get3, hp_set1, hp_set2, hp_set3, hp_old, hp_sold, set_got, set_set, set_next, set_other, bytesL, bytes_all, List.length_map, aapp_nils, aapp_wr, List.flatMap_cons, List.flatMap_nil, Nat.mul_one]
    obtain ⟨e3, c3, g3⟩ := c2.erase (k := k + 1) (by omega)
    refine erase_l ok c2.len ?_
    generalize x2.1.erase ((k + 1 : Nat) : Int) = x3 at *
    rw [e3]
    simp (maxSteps := 4000000) (disch := (first | omega | (simp only [set_next, List.length_append, List.length_cons, List.length_nil, List.length_take, List.length_drop, List.length_map, List.length_set, List.length_replicate]; omega) | (simp only [set_next, ne_eq, reduceCtorEq, not_false_eq_true]))) only [go_sem, Nat.reduceLeDiff, Nat.reduceAdd, Nat.reduceSub, Nat.reduceMul, Nat.reduceLT, Int.reduceLT, Int.reduceLE, Int.reduceAdd, Int.reduceSub, Int.reduceMul, Int.reduceToNat, Int.reduceNeg, Int.reduceEq, Nat.reducePow, Int.reducePow, Nat.reduceEqDiff, decide_true, decide_false, reduceIte, reduceCtorEq, Int.reduceBEq, Int.reduceBNe, bne_self_eq_false, Int.cast_ofNat_Int, Bool.not_true, Bool.not_false, IntKind.bits, w_nat, w_lit, w_add, w_addl, w_ladd, w_sub, w_subl, w_lsub, w_mul, w_mull, w_lmul, t_div, t_divl, t_mod, t_modl, i_lt, i_ltl, i_llt, i_le, i_lel, i_lle, i_eq, i_eql, i_leq, Nat.zero_le, d_beq, d_bne, d_bytes, byte_at, Int.toNat_natCast, toNat_lit, decide_eq_true, decide_eq_false, if_pos, if_neg, slA_len, slA_idx, slA_cells, flat_slA, one_slA, cells_slA, map_mid, strV_is, hp_get1, hp_get2, hp_get3, hp_set1, hp_set2, hp_set3, hp_old, hp_sold, set_got, set_set, set_next, set_other, bytesL, bytes_all, List.length_map, aapp_nils, aapp_wr, List.flatMap_cons, List.flatMap_nil, Nat.mul_one]
    obtain ⟨e4, c4, g4⟩ := c3.write (i := k * 512 + m) (s := s) (by omega)
    refine write_l ok c3.len ?_
    generalize x3.1.write ((k * 512 + m : Nat) : Int) s = x4 at *
    rw [e4]
    simp (maxSteps := 4000000) (disch := (first | omega | (simp only [set_next, List.length_append, List.length_cons, List.length_nil, List.length_take, List.length_drop, List.length_map, List.length_set, List.length_replicate]; omega) | (simp only [set_next, ne_eq, reduceCtorEq, not_false_eq_true]))) only [go_sem, Nat.reduceLeDiff, Nat.reduceAdd, Nat.reduceSub, Nat.reduceMul, Nat.reduceLT, Int.reduceLT, Int.reduceLE, Int.reduceAdd, Int.reduceSub, Int.reduceMul, Int.reduceToNat, Int.reduceNeg, Int.reduceEq, Nat.reducePow, Int.reducePow, Nat.reduceEqDiff, decide_true, decide_false, reduceIte, reduceCtorEq, Int.reduceBEq, Int.reduceBNe, bne_self_eq_false, Int.cast_ofNat_Int, Bool.not_true, Bool.not_false, IntKind.bits, w_nat, w_lit, w_add, w_addl, w_ladd, w_sub, w_subl, w_lsub, w_mul, w_mull, w_lmul, t_div, t_divl, t_mod, t_modl, i_lt, i_ltl, i_llt, i_le, i_lel, i_lle, i_eq, i_eql, i_leq, Nat.zero_le, d_beq, d_bne, d_bytes, byte_at, Int.toNat_natCast, toNat_lit, decide_eq_true, decide_eq_false, if_pos, if_neg, slA_len, slA_idx, slA_cells, flat_slA, one_slA, cells_slA, map_mid, strV_is, hp_get1, hp_get2, hp_get3, hp_set1, hp_set2, hp_set3, hp_old, hp_sold, set_got, set_set, set_next, set_other, bytesL, bytes_all, List.length_map, aapp_nils, aapp_wr, List.flatMap_cons, List.flatMap_nil, Nat.mul_one]
    refine read_l ok c4.len ?_
    have hrd : x4.1.read ((k * 512 + m : Nat) : Int) (s.length : Int) = retR s 0 := by
      unfold Chp.read
      rw [if_pos c4.on, if_pos (hasN_of (by omega)), Int.toNat_natCast, Int.toNat_natCast]
      have : (x4.1.l.drop (k * 512 + m)).take s.length = s := by
        apply ext_getD
        · simp; rw [c4.len]; omega
        · intro j hj
          have hj2 : j < s.length := by simp at hj; omega
          rw [getD_take, if_pos hj2, getD_drop, g4, if_pos (by omega), g3, g2]
          have h9 : ∀ q : UInt8, 255 &&& q = q := fun q => by
            apply UInt8.toNat_inj.1
            rw [UInt8.toNat_and]
            have := q.toNat_lt
            show 255 &&& q.toNat = q.toNat
            rw [Nat.and_comm]
            exact Nat.and_two_pow_sub_one_of_lt_two_pow (n := 8) this
          rw [show k * 512 + m + j - (k * 512 + m) = j by omega]
          split
          · exact h9 _
          · rw [if_pos (by omega)]; exact h9 _
      rw [this]
    rw [hrd]
    unfold retR
    simp (maxSteps := 4000000) (disch := (first | omega | (simp only [set_next, List.length_append, List.length_cons, List.length_nil, List.length_take, List.length_drop, List.length_map, List.length_set, List.length_replicate]; omega) | (simp only [set_next, ne_eq, reduceCtorEq, not_false_eq_true]))) only [go_sem, Nat.reduceLeDiff, Nat.reduceAdd, Nat.reduceSub, Nat.reduceMul, Nat.reduceLT, Int.reduceLT, Int.reduceLE, Int.reduceAdd, Int.reduceSub, Int.reduceMul, Int.reduceToNat, Int.reduceNeg, Int.reduceEq, Nat.reducePow, Int.reducePow, Nat.reduceEqDiff, decide_true, decide_false, reduceIte, reduceCtorEq, Int.reduceBEq, Int.reduceBNe, bne_self_eq_false, Int.cast_ofNat_Int, Bool.not_true, Bool.not_false, IntKind.bits, w_nat, w_lit, w_add, w_addl, w_ladd, w_sub, w_subl, w_lsub, w_mul, w_mull, w_lmul, t_div, t_divl, t_mod, t_modl, i_lt, i_ltl, i_llt, i_le, i_lel, i_lle, i_eq, i_eql, i_leq, Nat.zero_le, d_beq, d_bne, d_bytes, byte_at, Int.toNat_natCast, toNat_lit, decide_eq_true, decide_eq_false, if_pos, if_neg, slA_len, slA_idx, slA_cells, flat_slA, one_slA, cells_slA, map_mid, strV_is, hp_get1, hp_get2, hp_get3, hp_set1, hp_set2, hp_set3, hp_old, hp_sold, set_got, set_set, set_next, set_other, bytesL, bytes_all, List.length_map, aapp_nils, aapp_wr, List.flatMap_cons, List.flatMap_nil, Nat.mul_one]
    refine awake_a ?_
    simp (maxSteps := 4000000) (disch := (first | omega | (simp only [set_next, List.length_append, List.length_cons, List.length_nil, List.length_take, List.length_drop, List.length_map, List.length_set, List.length_replicate]; omega) | (simp only [set_next, ne_eq, reduceCtorEq, not_false_eq_true]))) only [go_sem, Nat.reduceLeDiff, Nat.reduceAdd, Nat.reduceSub, Nat.reduceMul, Nat.reduceLT, Int.reduceLT, Int.reduceLE, Int.reduceAdd, Int.reduceSub, Int.reduceMul, Int.reduceToNat, Int.reduceNeg, Int.reduceEq, Nat.reducePow, Int.reducePow, Nat.reduceEqDiff, decide_true, decide_false, reduceIte, reduceCtorEq, Int.reduceBEq, Int.reduceBNe, bne_self_eq_false, Int.cast_ofNat_Int, Bool.not_true, Bool.not_false, IntKind.bits, w_nat, w_lit, w_add, w_addl, w_ladd, w_sub, w_subl, w_lsub, w_mul, w_mull, w_lmul, t_div, t_divl, t_mod, t_modl, i_lt, i_ltl, i_llt, i_le, i_lel, i_lle, i_eq, i_eql, i_leq, Nat.zero_le, d_beq, d_bne, d_bytes, byte_at, Int.toNat_natCast, toNat_lit, decide_eq_true, decide_eq_false, if_pos, if_neg, slA_len, slA_idx, slA_cells, flat_slA, one_slA, cells_slA, map_mid, strV_is, hp_get1, hp_get2, hp_get3, hp_set1, hp_set2, hp_set3, hp_old, hp_sold, set_got, set_set, set_next, set_other, bytesL, bytes_all, List.length_map, aapp_nils, aapp_wr, List.flatMap_cons, List.flatMap_nil, Nat.mul_one]
    rw [hback, hp_nil]
    exact aret_plain (K := fun y _ => y = .bool true) hs (.bool _) rfl
theorem law_NorWrites (a0 a1 : Int) (a2 : ByteArray) (w0 : (Lit.int .u8 a0).wf = true) (w1 : (Lit.int .u16 a1).wf = true) {H : AHeap} : (ACalls Try.prog) 5 [.int .u8 a0, .int .u16 a1, .str a2] H (fun y _ => y = .bool true) := by
  have m0 : IntKind.u8.min = 0 := by decide
  have m1 : IntKind.u8.max = 255 := by decide
  have m2 : IntKind.u16.min = 0 := by decide
  have m3 : IntKind.u16.max = 65535 := by decide
  simp only [Lit.wf, Bool.and_eq_true, decide_eq_true_eq, m0, m1, m2, m3] at w0 w1
  obtain ⟨i, rfl⟩ := Int.eq_ofNat_of_zero_le w0.1
  obtain ⟨j, rfl⟩ := Int.eq_ofNat_of_zero_le w1.1
  have e : a2 = B a2.data.toList := rfl
  rw [e]
  exact norWrites_a i j (by omega) (by omega) _
end Go.Proofs.Ytblflecalomgfaa.AL
