/- bytes.Repeat of one byte, as often as a flash has bytes, told. -/
import Derived.Test.YtblflecalomgfaaALDNor
import Derived.Test.YtblflecalomgfaaALNorP
import Derived.Test.YtblflecalomgfaaALE
set_option linter.unusedSimpArgs false
set_option linter.unusedVariables false
set_option maxRecDepth 100000
namespace Go.Proofs.Ytblflecalomgfaa.AL
open Go Go.Proofs
attribute [local go_sem] go_seq go_skip go_region go_regionN go_cond go_block go_exit go_ret nxt_nil nxt_code nxt_blk nxt_cut leave_nil leave_code leave_cut leave_blk rtn_nil rtn_code rtn_blk rtn_cut cnd_t cnd_f rgn_nil rgY_some rgY_none rgH_some rgP_some retTo_is rgV_func grd_und grd_tt grd_ff grd_tf grd_ft rgn_q rgn_alloc rgn_box rgn_store rgn_lit rgn_litw litCells_nil litCells_cons rgn_app rgn_copy rgn_mk rgn_s2b rgn_call rgn_callv rgn_stop rgn_slice3 aslice3 rgn_put rgn_mkmap rgn_lookup rgn_mapup alookup_nilm alookup_map amapup_map afound_ok afound_no rgn_c rgn_cv qclV_func aloadr rgn_guard post_ret post_normal retY_some ares aresL ares1 AX.ev aput List.getD_cons_zero List.getD_cons_succ List.set_cons_zero List.set_cons_succ List.map_cons List.map_nil aq abin aint astr abeq aconv asame aextract alenS alenL_nils alenL_emp alenL_imm alenL_wr aun apart aload afieldAddr afield aidxSl_wr aidxSl_imm aidxPt aidxStr aidxArr abound asliceStr asliceSl asliceArr abest anonil afill astore acells_nils acells_emp acells_imm acells_wr acells_str acopy litAll amk as2b anil nilOf aseq aeqs aeqv fits fit1 hp_next hp_push hp_get hp_set List.length_cons List.length_nil List.getElem?_cons_zero List.getElem?_cons_succ List.cons_append List.nil_append List.append_nil List.take_succ_cons List.take_zero List.drop_succ_cons List.drop_zero List.all_cons List.all_nil Option.map_some Option.some.injEq Bool.and_true Bool.true_and Bool.false_eq_true if_true if_false ite_true ite_false Bool.and_self true_and and_true and_self Nat.zero_add Nat.le_refl Int.toNat_natCast beq_self_eq_true eq_self tops_zero tops_succ Int.natCast_nonneg List.take_nil List.drop_nil Option.map_none flat_bool one_bool cells_bool flat_int one_int cells_int flat_str one_str cells_str flat_nilp one_nilp cells_nilp flat_ptr one_ptr cells_ptr flat_nils one_nils cells_nils flat_imm one_imm cells_imm flat_wr one_wr cells_wr flat_func one_func cells_func flat_nilf one_nilf cells_nilf flat_map one_map cells_map flat_nilm one_nilm cells_nilm flat_iface one_iface cells_iface flat_nili one_nili cells_nili flat_rd one_rd cells_rd flat_emp one_emp cells_emp flat_byteV one_byteV cells_byteV flat_agg cells_agg one_agg B_size B_list B_ext B_toList B_app List.take_length Int.le_refl
theorem mnz_a {n : Nat} (hn : n ≤ 281474976710656) {H : AHeap} {K : AV → AHeap → Prop} (h : K (.wr H.next 0 0 n 1) (H.push (.row 5 0 (List.replicate n .top)))) : (ACalls Try.prog) 145 [.int .i64 (n : Int)] H K :=
  acalls_ext fun g w vs hS hR => by
    obtain ⟨u, rfl, h1⟩ := reps_one hR
    have e1 := int_inv h1
    subst e1
    obtain ⟨cs, hr, hc1, hc2⟩ := Lib.run_makeNoZero (P := Try.prog) w #[3] 55 5 (by kernel_rfl) n hn
    have hm : n ≤ maxLen := by simp only [maxLen]; omega
    have hc3 := hc2 hm
    have hcs : cs = cs.extract 0 n ++ cs.extract n cs.size := by simp [Nat.min_eq_right hc1, Nat.max_eq_right hc1]
    have hrp : Reps g w (cs.extract 0 n) (List.replicate n .top) := by
      refine ⟨by simp; omega, fun i v y hv hy => ?_⟩
      rw [List.getElem?_replicate] at hy
      split at hy
      · cases hy; exact .top v
      · cases hy
    obtain ⟨hE, hS2, hm2, hsh⟩ := sim_push (w' := w.drew.drew.alloc (.cells cs 5)) (e := 5) (pad := cs.extract n cs.size) (lo := 0) (hi := 0) hS hrp (by rw [← hcs]; rfl) (fun i _ => by omega) rfl rfl rfl
    refine ⟨.slice (some ⟨w.heap.size, 0, none⟩) n cs.size, w.drew.drew.alloc (.cells cs 5), _, _, _, ?_, hE, hS2, ?_, h⟩
    · rw [run_callFunc_extern Try.func145 (by kernel_rfl) (by kernel_rfl) (by kernel_rfl) (e := Extern.BytealgMakeNoZero.makeNoZero #[3] #[55]) (by kernel_rfl)]
      simp [hr, Result.andThen]
    · rw [← hcs] at hsh
      exact .wr _ _ _ _ _ w.heap.size cs.size 5 cs.size hm2 hsh (by omega) hc1 (by simp only [maxLen] at hc3; omega)
theorem mul64_a {H : AHeap} {K : AV → AHeap → Prop} (h : K (.tup [.int .u64 0, .int .u64 24576]) H) : (ACalls Try.prog) 170 [.int .u64 1, .int .u64 24576] H K := by
  refine acalls_go mo t170 (fun hs hu => ?_)
  have f1 : bits BinOp.and .u64 1 4294967295 = 1 := by decide
  have f2 : bits BinOp.and .u64 24576 4294967295 = 24576 := by decide
  have f3 : bits BinOp.and .u64 0 4294967295 = 0 := by decide
  have f4 : ashift false .u64 1 32 = some (.int .u64 0) := by rfl
  have f5 : ashift false .u64 24576 32 = some (.int .u64 0) := by rfl
  have f6 : ashift false .u64 0 32 = some (.int .u64 0) := by rfl
  have f7 : IntKind.wrap .u64 24576 = 24576 := by decide
  have f8 : IntKind.wrap .u64 0 = 0 := by decide
  simp only [c170, f1, f2, f3, f4, f5, f6, f7, f8, Int.one_mul, Int.zero_mul, Int.mul_zero, Int.zero_add, Int.add_zero, go_sem, Nat.reduceLeDiff, Nat.reduceAdd, Nat.reduceSub, Nat.reduceMul, Nat.reduceLT, Int.reduceLT, Int.reduceLE, Int.reduceAdd, Int.reduceSub, Int.reduceMul, Int.reduceToNat, Int.reduceNeg, Int.reduceEq, Nat.reducePow, Int.reducePow, Nat.reduceEqDiff, decide_true, decide_false, reduceIte, reduceCtorEq, Int.reduceBEq, Int.reduceBNe, bne_self_eq_false, Int.cast_ofNat_Int, Bool.not_true, Bool.not_false, IntKind.bits]
  exact aret_plain hs (by simp only [u_top, u_bool, u_int, u_str, u_nilp, u_nils, u_nilf, u_nilm, u_nili, u_emp, u_byteV, u_ptr, u_wr, u_agg, u_tup, u_rd, u_imm, u_func, u_nil, u_cons, u_app, uc_nil, uc_cons, uc_app, u_bytes, uc_bytes, u_ints, uc_ints, cells_bool, cells_int, cells_str, cells_agg, cells_ptr, cells_nils, cells_imm, cells_wr, cells_nilp, cells_nilf, cells_nilm, cells_rd, cells_emp, cells_byteV, cells_func, and_self, and_true, true_and, u_slA, uc_strs, cells_slA, strV_is]) (h)
theorem mul_a {H : AHeap} {K : AV → AHeap → Prop} (h : K (.tup [.int .u64 0, .int .u64 24576]) H) : (ACalls Try.prog) 144 [.int .u64 1, .int .u64 24576] H K := by
  refine acalls_go mo t144 (fun hs hu => ?_)
  simp only [c144, go_sem, Nat.reduceLeDiff, Nat.reduceAdd, Nat.reduceSub, Nat.reduceMul, Nat.reduceLT, Int.reduceLT, Int.reduceLE, Int.reduceAdd, Int.reduceSub, Int.reduceMul, Int.reduceToNat, Int.reduceNeg, Int.reduceEq, Nat.reducePow, Int.reducePow, Nat.reduceEqDiff, decide_true, decide_false, reduceIte, reduceCtorEq, Int.reduceBEq, Int.reduceBNe, bne_self_eq_false, Int.cast_ofNat_Int, Bool.not_true, Bool.not_false, IntKind.bits]
  refine mul64_a ?_
  simp (maxSteps := 4000000) (disch := (first | omega | (simp only [set_next, List.length_append, List.length_cons, List.length_nil, List.length_take, List.length_drop, List.length_map, List.length_set, List.length_replicate]; omega) | (simp only [set_next, ne_eq, reduceCtorEq, not_false_eq_true]))) only [go_sem, Nat.reduceLeDiff, Nat.reduceAdd, Nat.reduceSub, Nat.reduceMul, Nat.reduceLT, Int.reduceLT, Int.reduceLE, Int.reduceAdd, Int.reduceSub, Int.reduceMul, Int.reduceToNat, Int.reduceNeg, Int.reduceEq, Nat.reducePow, Int.reducePow, Nat.reduceEqDiff, decide_true, decide_false, reduceIte, reduceCtorEq, Int.reduceBEq, Int.reduceBNe, bne_self_eq_false, Int.cast_ofNat_Int, Bool.not_true, Bool.not_false, IntKind.bits, w_nat, w_lit, w_add, w_addl, w_ladd, w_sub, w_subl, w_lsub, w_mul, w_mull, w_lmul, t_div, t_divl, t_mod, t_modl, i_lt, i_ltl, i_llt, i_le, i_lel, i_lle, i_eq, i_eql, i_leq, Nat.zero_le, d_beq, d_bne, d_bytes, byte_at, Int.toNat_natCast, toNat_lit, decide_eq_true, decide_eq_false, if_pos, if_neg, slA_len, slA_idx, slA_cells, flat_slA, one_slA, cells_slA, map_mid, strV_is, hp_get1, hp_get2, hp_get3, hp_set1, hp_set2, hp_set3, hp_old, hp_sold, set_got, set_set, set_next, set_other, bytesL, bytes_all, List.length_map, aapp_nils, aapp_wr, List.flatMap_cons, List.flatMap_nil, Nat.mul_one]
  exact aret_plain hs (by simp only [u_top, u_bool, u_int, u_str, u_nilp, u_nils, u_nilf, u_nilm, u_nili, u_emp, u_byteV, u_ptr, u_wr, u_agg, u_tup, u_rd, u_imm, u_func, u_nil, u_cons, u_app, uc_nil, uc_cons, uc_app, u_bytes, uc_bytes, u_ints, uc_ints, cells_bool, cells_int, cells_str, cells_agg, cells_ptr, cells_nils, cells_imm, cells_wr, cells_nilp, cells_nilf, cells_nilm, cells_rd, cells_emp, cells_byteV, cells_func, and_self, and_true, true_and, u_slA, uc_strs, cells_slA, strV_is]) (h)
/-- The first m cells told, the others not. -/
def rp (y : AV) (m : Nat) : List AV := List.replicate m y ++ List.replicate (24576 - m) .top
theorem rp_len {y : AV} {m : Nat} (h : m ≤ 24576) : (rp y m).length = 24576 := by
  unfold rp
  rw [List.length_append, List.length_replicate, List.length_replicate]
  omega
theorem rp_take {y : AV} {m c : Nat} (h : c ≤ m) : (rp y m).take c = List.replicate c y := by
  unfold rp
  rw [List.take_append_of_le_length (by rw [List.length_replicate]; exact h), List.take_replicate, Nat.min_eq_left h]
theorem rp_drop {y : AV} {m c : Nat} (h : m ≤ c) : (rp y m).drop c = List.replicate (24576 - c) .top := by
  unfold rp
  rw [List.drop_append, List.length_replicate, List.drop_of_length_le (by rw [List.length_replicate]; exact h), List.drop_replicate, List.nil_append, show 24576 - m - (c - m) = 24576 - c by omega]
theorem rp_copy {y : AV} {m k c : Nat} (h : k ≤ c) (h2 : c ≤ m) : (rp y m).take m ++ (List.replicate c y).take k ++ (rp y m).drop (m + k) = rp y (m + k) := by
  rw [rp_take (Nat.le_refl _), rp_drop (by omega), List.take_replicate, Nat.min_eq_left h, List.replicate_append_replicate]
  rfl
theorem rp_zero (y : AV) : List.replicate 24576 .top = rp y 0 := by
  unfold rp
  rw [List.replicate_zero, List.nil_append, Nat.sub_zero]
theorem rp_one (y : AV) : y :: (rp y 0).drop 1 = rp y 1 := by
  rw [rp_drop (by omega)]
  rfl
theorem rp_full (c : UInt8) : rp (byteV c) 24576 = (List.replicate 24576 c).map byteV := by
  unfold rp
  rw [Nat.sub_self, List.replicate_zero, List.append_nil, List.map_replicate]
theorem rep_ones {y : AV} (h : y.one = true) (n : Nat) : (List.replicate n y).all AV.one = true := by
  rw [List.all_eq_true]
  intro x hx
  rw [List.eq_of_mem_replicate hx]
  exact h
theorem rp_under {y : AV} {n m : Nat} (h : y.under n) : ∀ x ∈ rp y m, x.under n := by
  intro x hx
  unfold rp at hx
  rcases List.mem_append.1 hx with h1 | h1
  · rw [List.eq_of_mem_replicate h1]; exact h
  · rw [List.eq_of_mem_replicate h1]; exact .top
theorem up_under {n m : Nat} (hnm : n ≤ m) {y : AV} (h : y.under n) : y.under m := by
  induction h with
  | ptr id g o hid => exact .ptr _ _ _ (by omega)
  | wr id g o l z hid => exact .wr _ _ _ _ _ (by omega)
  | map id hid => exact .map _ (by omega)
  | imm sz xs _ ih => exact .imm _ _ ih
  | func fn fs cs _ _ ih1 ih2 => exact .func _ _ _ ih1 ih2
  | iface t y _ ih => exact .iface _ _ ih
  | agg cs _ ih => exact .agg _ ih
  | tup cs _ ih => exact .tup _ ih
  | rd cs _ ih => exact .rd _ ih
  | _ => constructor
theorem up_obj {n m : Nat} (hnm : n ≤ m) {o : AObj} (h : o.under n) : o.under m := by
  cases o with
  | row e g cs => exact fun c hc => up_under hnm (h c hc)
  | map es => exact fun e he => ⟨up_under hnm (h e he).1, up_under hnm (h e he).2⟩
/-- One's own rows stay. -/
theorem aret_stay {K : AV → AHeap → Prop} {y : AV} {H : AHeap} {l : List AObj} (hs : H.within H.next) (hl : ∀ o ∈ l, o.under (H.next + l.length)) (hy : y.under (H.next + l.length)) (hk : K y (hp H l)) : ARet H.next K y (hp H l) :=
  ⟨hp H l, y, (hp H l).next, .refl _ _, Nat.le_add_right _ _, hy, within_hp hl (fun id o h1 h2 => up_obj (Nat.le_add_right _ _) (hs id o h1 h2)), by rw [trunc_self]; exact hk⟩
theorem repeat_a {c : UInt8} {H : AHeap} {K : AV → AHeap → Prop} (h : K (.wr (H.next + 0) 0 0 24576 1) (hp H [.row 5 0 ((List.replicate 24576 c).map byteV)])) : (ACalls Try.prog) 81 [.imm 1 [byteV c], .int .i64 24576] H K := by
  refine acalls_go mo t81 (fun hs hu => ?_)
  have f7 : IntKind.wrap .u64 24576 = 24576 := by decide
  have f8 : IntKind.wrap .i64 24576 = 24576 := by decide
  have f9 : IntKind.wrap .u64 1 = 1 := by decide
  have f10 : Int.tdiv 8192 1 = 8192 := by decide
  simp only [c81, f7, f8, f9, f10, List.length_cons, List.length_nil, go_sem, Nat.reduceLeDiff, Nat.reduceAdd, Nat.reduceSub, Nat.reduceMul, Nat.reduceLT, Int.reduceLT, Int.reduceLE, Int.reduceAdd, Int.reduceSub, Int.reduceMul, Int.reduceToNat, Int.reduceNeg, Int.reduceEq, Nat.reducePow, Int.reducePow, Nat.reduceEqDiff, decide_true, decide_false, reduceIte, reduceCtorEq, Int.reduceBEq, Int.reduceBNe, bne_self_eq_false, Int.cast_ofNat_Int, Bool.not_true, Bool.not_false, IntKind.bits]
  refine mul_a ?_
  simp only [f7, f8, f9, f10, List.length_cons, List.length_nil, go_sem, Nat.reduceLeDiff, Nat.reduceAdd, Nat.reduceSub, Nat.reduceMul, Nat.reduceLT, Int.reduceLT, Int.reduceLE, Int.reduceAdd, Int.reduceSub, Int.reduceMul, Int.reduceToNat, Int.reduceNeg, Int.reduceEq, Nat.reducePow, Int.reducePow, Nat.reduceEqDiff, decide_true, decide_false, reduceIte, reduceCtorEq, Int.reduceBEq, Int.reduceBNe, bne_self_eq_false, Int.cast_ofNat_Int, Bool.not_true, Bool.not_false, IntKind.bits]
  simp (maxSteps := 4000000) (disch := (first | omega | (simp only [set_next, List.length_append, List.length_cons, List.length_nil, List.length_take, List.length_drop, List.length_map, List.length_set, List.length_replicate]; omega) | (simp only [set_next, ne_eq, reduceCtorEq, not_false_eq_true]))) only [f7, f8, f9, f10, go_sem, Nat.reduceLeDiff, Nat.reduceAdd, Nat.reduceSub, Nat.reduceMul, Nat.reduceLT, Int.reduceLT, Int.reduceLE, Int.reduceAdd, Int.reduceSub, Int.reduceMul, Int.reduceToNat, Int.reduceNeg, Int.reduceEq, Nat.reducePow, Int.reducePow, Nat.reduceEqDiff, decide_true, decide_false, reduceIte, reduceCtorEq, Int.reduceBEq, Int.reduceBNe, bne_self_eq_false, Int.cast_ofNat_Int, Bool.not_true, Bool.not_false, IntKind.bits, w_nat, w_lit, w_add, w_addl, w_ladd, w_sub, w_subl, w_lsub, w_mul, w_mull, w_lmul, t_div, t_divl, t_mod, t_modl, i_lt, i_ltl, i_llt, i_le, i_lel, i_lle, i_eq, i_eql, i_leq, Nat.zero_le, d_beq, d_bne, d_bytes, byte_at, Int.toNat_natCast, toNat_lit, decide_eq_true, decide_eq_false, if_pos, if_neg, slA_len, slA_idx, slA_cells, flat_slA, one_slA, cells_slA, map_mid, strV_is, hp_get1, hp_get2, hp_get3, hp_set1, hp_set2, hp_set3, hp_old, hp_sold, set_got, set_set, set_next, set_other, bytesL, bytes_all, List.length_map, aapp_nils, aapp_wr, List.flatMap_cons, List.flatMap_nil, Nat.mul_one]
  refine mnz_a (n := 24576) (by decide) ?_
  have h1 : (byteV c).one = true := rfl
  have h2 : (byteV c).cells = [byteV c] := rfl
  rw [rp_zero (byteV c), ← rp_full] at *
  have hy : ∀ n, (byteV c).under n := fun n => .int _ _
  generalize byteV c = y at *
  have hl0 : (rp y 0).length = 24576 := rp_len (by omega)
  have f11 : min 1 24576 = 1 := rfl
  have f12 : ([y] : List AV).take 1 = [y] := rfl
  simp (maxSteps := 4000000) (disch := (first | omega | (simp only [set_next, List.length_append, List.length_cons, List.length_nil, List.length_take, List.length_drop, List.length_map, List.length_set, List.length_replicate]; omega) | (simp only [set_next, ne_eq, reduceCtorEq, not_false_eq_true]))) only [f7, f8, f9, f10, hl0, h1, h2, f11, f12, rp_one, List.cons_append, List.nil_append, go_sem, Nat.reduceLeDiff, Nat.reduceAdd, Nat.reduceSub, Nat.reduceMul, Nat.reduceLT, Int.reduceLT, Int.reduceLE, Int.reduceAdd, Int.reduceSub, Int.reduceMul, Int.reduceToNat, Int.reduceNeg, Int.reduceEq, Nat.reducePow, Int.reducePow, Nat.reduceEqDiff, decide_true, decide_false, reduceIte, reduceCtorEq, Int.reduceBEq, Int.reduceBNe, bne_self_eq_false, Int.cast_ofNat_Int, Bool.not_true, Bool.not_false, IntKind.bits, w_nat, w_lit, w_add, w_addl, w_ladd, w_sub, w_subl, w_lsub, w_mul, w_mull, w_lmul, t_div, t_divl, t_mod, t_modl, i_lt, i_ltl, i_llt, i_le, i_lel, i_lle, i_eq, i_eql, i_leq, Nat.zero_le, d_beq, d_bne, d_bytes, byte_at, Int.toNat_natCast, toNat_lit, decide_eq_true, decide_eq_false, if_pos, if_neg, slA_len, slA_idx, slA_cells, flat_slA, one_slA, cells_slA, map_mid, strV_is, hp_get1, hp_get2, hp_get3, hp_set1, hp_set2, hp_set3, hp_old, hp_sold, set_got, set_set, set_next, set_other, bytesL, bytes_all, List.length_map, aapp_nils, aapp_wr, List.flatMap_cons, List.flatMap_nil, Nat.mul_one]
  refine go_loopS mono (σ := Nat) (fun m => [(10, .int .i64 (m : Int))]) (fun m => hp H [.row 5 0 (rp y m)]) (fun m => 1 ≤ m ∧ m ≤ 24576) (fun m => 24576 - m) 1 ?_ rfl ⟨by omega, by omega⟩ (fun m hm J hJ => ?_)
  · (simp only [blurR_nil, blurR_some, blurR_none, blurC_region, blurC_regionN, blurC_seq, blurC_cond, blurC_block, blurC_loop, blurC_skip, blurC_exit, blurC_ret, tellS_nil, tellS_cons, List.set_cons_zero, List.set_cons_succ, tops_zero, tops_succ]; repeat first | exact forget_nil | apply forget_keep | apply forget_top)
  · obtain ⟨m1, m2⟩ := hm
    simp only [blurR_nil, blurR_some, blurR_none, blurC_region, blurC_regionN, blurC_seq, blurC_cond, blurC_block, blurC_loop, blurC_skip, blurC_exit, blurC_ret, tellS_nil, tellS_cons, List.set_cons_zero, List.set_cons_succ, tops_zero, tops_succ]
    have hlm : (rp y m).length = 24576 := rp_len m2
    by_cases h3 : m < 24576
    · have h1m : ¬ (m = 0) := by omega
      by_cases h5 : 8192 < m
      · have ht : (rp y m).take 8192 = List.replicate 8192 y := rp_take (by omega)
        have hk : min 8192 (24576 - m) ≤ 8192 := Nat.min_le_left _ _
        have hk2 : min 8192 (24576 - m) ≤ 24576 - m := Nat.min_le_right _ _
        have hk3 : 0 < min 8192 (24576 - m) := by omega
        generalize hkk : min 8192 (24576 - m) = k at hk hk2 hk3
        have hc := rp_copy (y := y) hk (Nat.le_of_lt h5)
        have hro := rep_ones h1 8192
        simp (maxSteps := 4000000) (disch := (first | omega | (simp only [set_next, List.length_append, List.length_cons, List.length_nil, List.length_take, List.length_drop, List.length_map, List.length_set, List.length_replicate]; omega) | (simp only [set_next, ne_eq, reduceCtorEq, not_false_eq_true]))) only [hlm, ht, hkk, hc, hro, h1m, or_true, true_or, or_self, if_true, go_sem, Nat.reduceLeDiff, Nat.reduceAdd, Nat.reduceSub, Nat.reduceMul, Nat.reduceLT, Int.reduceLT, Int.reduceLE, Int.reduceAdd, Int.reduceSub, Int.reduceMul, Int.reduceToNat, Int.reduceNeg, Int.reduceEq, Nat.reducePow, Int.reducePow, Nat.reduceEqDiff, decide_true, decide_false, reduceIte, reduceCtorEq, Int.reduceBEq, Int.reduceBNe, bne_self_eq_false, Int.cast_ofNat_Int, Bool.not_true, Bool.not_false, IntKind.bits, w_nat, w_lit, w_add, w_addl, w_ladd, w_sub, w_subl, w_lsub, w_mul, w_mull, w_lmul, t_div, t_divl, t_mod, t_modl, i_lt, i_ltl, i_llt, i_le, i_lel, i_lle, i_eq, i_eql, i_leq, Nat.zero_le, d_beq, d_bne, d_bytes, byte_at, Int.toNat_natCast, toNat_lit, decide_eq_true, decide_eq_false, if_pos, if_neg, slA_len, slA_idx, slA_cells, flat_slA, one_slA, cells_slA, map_mid, strV_is, hp_get1, hp_get2, hp_get3, hp_set1, hp_set2, hp_set3, hp_old, hp_sold, set_got, set_set, set_next, set_other, bytesL, bytes_all, List.length_map, aapp_nils, aapp_wr, List.flatMap_cons, List.flatMap_nil, Nat.mul_one]
        exact hJ (m + k) _ ⟨by omega, by omega⟩ (by omega) (by (simp only [blurR_nil, blurR_some, blurR_none, blurC_region, blurC_regionN, blurC_seq, blurC_cond, blurC_block, blurC_loop, blurC_skip, blurC_exit, blurC_ret, tellS_nil, tellS_cons, List.set_cons_zero, List.set_cons_succ, tops_zero, tops_succ]; repeat first | exact forget_nil | apply forget_keep | apply forget_top))
      · have ht : (rp y m).take m = List.replicate m y := rp_take (by omega)
        have hk : min m (24576 - m) ≤ m := Nat.min_le_left _ _
        have hk2 : min m (24576 - m) ≤ 24576 - m := Nat.min_le_right _ _
        have hk3 : 0 < min m (24576 - m) := by omega
        generalize hkk : min m (24576 - m) = k at hk hk2 hk3
        have hc := rp_copy (y := y) hk (Nat.le_refl _)
        rw [ht] at hc
        have hro := rep_ones h1 m
        simp (maxSteps := 4000000) (disch := (first | omega | (simp only [set_next, List.length_append, List.length_cons, List.length_nil, List.length_take, List.length_drop, List.length_map, List.length_set, List.length_replicate]; omega) | (simp only [set_next, ne_eq, reduceCtorEq, not_false_eq_true]))) only [hlm, ht, hkk, hc, hro, h1m, Nat.sub_zero, or_true, true_or, or_self, if_true, go_sem, Nat.reduceLeDiff, Nat.reduceAdd, Nat.reduceSub, Nat.reduceMul, Nat.reduceLT, Int.reduceLT, Int.reduceLE, Int.reduceAdd, Int.reduceSub, Int.reduceMul, Int.reduceToNat, Int.reduceNeg, Int.reduceEq, Nat.reducePow, Int.reducePow, Nat.reduceEqDiff, decide_true, decide_false, reduceIte, reduceCtorEq, Int.reduceBEq, Int.reduceBNe, bne_self_eq_false, Int.cast_ofNat_Int, Bool.not_true, Bool.not_false, IntKind.bits, w_nat, w_lit, w_add, w_addl, w_ladd, w_sub, w_subl, w_lsub, w_mul, w_mull, w_lmul, t_div, t_divl, t_mod, t_modl, i_lt, i_ltl, i_llt, i_le, i_lel, i_lle, i_eq, i_eql, i_leq, Nat.zero_le, d_beq, d_bne, d_bytes, byte_at, Int.toNat_natCast, toNat_lit, decide_eq_true, decide_eq_false, if_pos, if_neg, slA_len, slA_idx, slA_cells, flat_slA, one_slA, cells_slA, map_mid, strV_is, hp_get1, hp_get2, hp_get3, hp_set1, hp_set2, hp_set3, hp_old, hp_sold, set_got, set_set, set_next, set_other, bytesL, bytes_all, List.length_map, aapp_nils, aapp_wr, List.flatMap_cons, List.flatMap_nil, Nat.mul_one]
        exact hJ (m + k) _ ⟨by omega, by omega⟩ (by omega) (by (simp only [blurR_nil, blurR_some, blurR_none, blurC_region, blurC_regionN, blurC_seq, blurC_cond, blurC_block, blurC_loop, blurC_skip, blurC_exit, blurC_ret, tellS_nil, tellS_cons, List.set_cons_zero, List.set_cons_succ, tops_zero, tops_succ]; repeat first | exact forget_nil | apply forget_keep | apply forget_top))
    · have h4 : m = 24576 := by omega
      subst h4
      simp (maxSteps := 4000000) (disch := (first | omega | (simp only [set_next, List.length_append, List.length_cons, List.length_nil, List.length_take, List.length_drop, List.length_map, List.length_set, List.length_replicate]; omega) | (simp only [set_next, ne_eq, reduceCtorEq, not_false_eq_true]))) only [go_sem, Nat.reduceLeDiff, Nat.reduceAdd, Nat.reduceSub, Nat.reduceMul, Nat.reduceLT, Int.reduceLT, Int.reduceLE, Int.reduceAdd, Int.reduceSub, Int.reduceMul, Int.reduceToNat, Int.reduceNeg, Int.reduceEq, Nat.reducePow, Int.reducePow, Nat.reduceEqDiff, decide_true, decide_false, reduceIte, reduceCtorEq, Int.reduceBEq, Int.reduceBNe, bne_self_eq_false, Int.cast_ofNat_Int, Bool.not_true, Bool.not_false, IntKind.bits, w_nat, w_lit, w_add, w_addl, w_ladd, w_sub, w_subl, w_lsub, w_mul, w_mull, w_lmul, t_div, t_divl, t_mod, t_modl, i_lt, i_ltl, i_llt, i_le, i_lel, i_lle, i_eq, i_eql, i_leq, Nat.zero_le, d_beq, d_bne, d_bytes, byte_at, Int.toNat_natCast, toNat_lit, decide_eq_true, decide_eq_false, if_pos, if_neg, slA_len, slA_idx, slA_cells, flat_slA, one_slA, cells_slA, map_mid, strV_is, hp_get1, hp_get2, hp_get3, hp_set1, hp_set2, hp_set3, hp_old, hp_sold, set_got, set_set, set_next, set_other, bytesL, bytes_all, List.length_map, aapp_nils, aapp_wr, List.flatMap_cons, List.flatMap_nil, Nat.mul_one]
      exact aret_stay hs (fun o ho => by rw [List.mem_singleton.1 ho]; exact rp_under (hy _)) (.wr _ _ _ _ _ (by simp)) h
end Go.Proofs.Ytblflecalomgfaa.AL
