/- sha's own block told. -/
import Derived.Test.YtblflecalomgfaaALSha5
set_option linter.unusedSimpArgs false
set_option linter.unusedVariables false
set_option maxRecDepth 100000
namespace Go.Proofs.Ytblflecalomgfaa.AL
open Go Go.Proofs
attribute [local go_sem] go_seq go_skip go_region go_regionN go_cond go_block go_exit go_ret nxt_nil nxt_code nxt_blk nxt_cut leave_nil leave_code leave_cut leave_blk rtn_nil rtn_code rtn_blk rtn_cut cnd_t cnd_f rgn_nil rgY_some rgY_none rgH_some rgP_some retTo_is rgV_func grd_und grd_tt grd_ff grd_tf grd_ft rgn_q rgn_alloc rgn_box rgn_store rgn_lit rgn_litw litCells_nil litCells_cons rgn_app rgn_copy rgn_mk rgn_s2b rgn_call rgn_callv rgn_stop rgn_slice3 aslice3 rgn_put rgn_mkmap rgn_lookup rgn_mapup alookup_nilm alookup_map amapup_map afound_ok afound_no rgn_c rgn_cv qclV_func aloadr rgn_guard post_ret post_normal retY_some ares aresL ares1 AX.ev aput List.getD_cons_zero List.getD_cons_succ List.set_cons_zero List.set_cons_succ List.map_cons List.map_nil aq abin aint astr abeq aconv asame aextract alenS alenL_nils alenL_emp alenL_imm alenL_wr aun apart aload afieldAddr afield aidxSl_wr aidxSl_imm aidxPt aidxStr aidxArr abound asliceStr asliceSl asliceArr abest anonil afill astore acells_nils acells_emp acells_imm acells_wr acells_str acopy litAll amk as2b anil nilOf aseq aeqs aeqv fits fit1 hp_next hp_push hp_get hp_set List.length_cons List.length_nil List.getElem?_cons_zero List.getElem?_cons_succ List.cons_append List.nil_append List.append_nil List.take_succ_cons List.take_zero List.drop_succ_cons List.drop_zero List.all_cons List.all_nil Option.map_some Option.some.injEq Bool.and_true Bool.true_and Bool.false_eq_true if_true if_false ite_true ite_false Bool.and_self true_and and_true and_self Nat.zero_add Nat.le_refl Int.toNat_natCast beq_self_eq_true eq_self tops_zero tops_succ Int.natCast_nonneg List.take_nil List.drop_nil Option.map_none flat_bool one_bool cells_bool flat_int one_int cells_int flat_str one_str cells_str flat_nilp one_nilp cells_nilp flat_ptr one_ptr cells_ptr flat_nils one_nils cells_nils flat_imm one_imm cells_imm flat_wr one_wr cells_wr flat_func one_func cells_func flat_nilf one_nilf cells_nilf flat_map one_map cells_map flat_nilm one_nilm cells_nilm flat_iface one_iface cells_iface flat_nili one_nili cells_nili flat_rd one_rd cells_rd flat_emp one_emp cells_emp flat_byteV one_byteV cells_byteV flat_agg cells_agg one_agg B_size B_list B_ext B_toList B_app List.take_length Int.le_refl
theorem mid_get (pre c post : List AV) (k : Nat) (h : k < c.length) : (pre ++ c ++ post)[pre.length + k]? = c[k]? := by
  rw [List.append_assoc, List.getElem?_append_right (Nat.le_add_right _ _), Nat.add_sub_cancel_left, List.getElem?_append_left h]
theorem mid_put (pre c post : List AV) (k : Nat) (y : AV) (h : k < c.length) : (pre ++ c ++ post).take (pre.length + k) ++ [y] ++ (pre ++ c ++ post).drop (pre.length + k + 1) = pre ++ c.set k y ++ post := by
  rw [List.append_assoc pre c post, List.take_append, List.drop_append, List.take_of_length_le (by omega), List.drop_of_length_le (by omega), Nat.add_sub_cancel_left, Nat.add_assoc, Nat.add_sub_cancel_left, List.take_append_of_le_length (by omega), List.drop_append_of_le_length (by omega), List.set_eq_take_append_cons_drop, if_pos h]
  simp
theorem mid_len (pre c post : List AV) : (pre ++ c ++ post).length = pre.length + c.length + post.length := by simp; omega
theorem block_a {x : S8} {l : List UInt8} (hl : l.length = 64) {id gen off : Nat} {e : TypeId} {pre post : List AV} {H : AHeap} {K : AV → AHeap → Prop} (hg : H.get id = some (.row e gen (pre ++ x.l ++ post))) (hcl : ∀ j, j < 64 → (pre ++ x.l ++ post)[off + j]? = some (.int .u8 ((l.getD j 0).toNat : Int)))
    (h : K (.tup []) (H.set id (.row e gen (pre ++ (block8 shaK x l).l ++ post)))) : (ACalls Try.prog) 187 [.ptr id gen pre.length, .wr id gen off 64 1] H K := by
  refine acalls_go mo t187 (fun hs hu => ?_)
  have hlt := H.lt hg
  have words64 : ∀ ws : List (BitVec 32), ws.length = 64 → (ws.map u32V).length = 64 ∧ (ws.map u32V).all AV.one = true ∧ (∀ i, i < 64 → (ws.map u32V)[i]? = some (.int .u32 ((ws.getD i 0).toNat : Int))) := fun ws hw => by
    refine ⟨by simp [hw], by simp [u32V, one_int], fun i hi => ?_⟩
    rw [List.getElem?_map, List.getElem?_eq_getElem (by omega), List.getD_eq_getElem?_getD, List.getElem?_eq_getElem (by omega)]
    rfl
  have hkl : shaK.length = 64 := rfl
  obtain ⟨kl, k1, kg⟩ := words64 shaK hkl
  obtain ⟨wl, w1, wg⟩ := words64 (wds l 64) (wds_len l 64)
  have hsp : ∀ (H0 : AHeap) (K : AV → AHeap → Prop), H0.get id = some (.row e gen (pre ++ x.l ++ post)) → K (.agg ((wds l 64).map u32V)) H0 → (ACalls Try.prog) 193 [.wr id gen off 64 1] H0 K := fun H0 K h0 hh => spread_a hl h0 hcl hh
  have hco : ∀ (H0 : AHeap) (K : AV → AHeap → Prop), K (.agg (shaK.map u32V)) H0 → (ACalls Try.prog) 194 [] H0 K := fun H0 K hh => constants_a hh
  unfold block8 at h
  generalize wds l 64 = ws at hsp wl w1 wg h
  generalize shaK = ks at hco kl k1 kg h
  generalize ks.map u32V = KS at kl k1 kg hco
  generalize ws.map u32V = WS at wl w1 wg hsp
  have zl : (List.replicate 64 (AV.int .u32 0)).length = 64 := List.length_replicate
  have zd : (List.replicate 64 (AV.int .u32 0)).drop 64 = [] := List.drop_of_length_le (by rw [zl]; exact Nat.le_refl _)
  generalize hZ : List.replicate 64 (AV.int .u32 0) = Z at zl zd
  simp only [c187, hZ, go_sem, Nat.reduceLeDiff, Nat.reduceAdd, Nat.reduceSub, Nat.reduceMul, Nat.reduceLT, Int.reduceLT, Int.reduceLE, Int.reduceAdd, Int.reduceSub, Int.reduceMul, Int.reduceToNat, Int.reduceNeg, Int.reduceEq, Nat.reducePow, Int.reducePow, Nat.reduceEqDiff, decide_true, decide_false, reduceIte, reduceCtorEq, Int.reduceBEq, Int.reduceBNe, bne_self_eq_false, Int.cast_ofNat_Int, Bool.not_true, Bool.not_false, IntKind.bits]
  refine hsp _ _ (by rw [hp_get_old _ _ _ hlt]; exact hg) ?_
  simp only [hZ, go_sem, Nat.reduceLeDiff, Nat.reduceAdd, Nat.reduceSub, Nat.reduceMul, Nat.reduceLT, Int.reduceLT, Int.reduceLE, Int.reduceAdd, Int.reduceSub, Int.reduceMul, Int.reduceToNat, Int.reduceNeg, Int.reduceEq, Nat.reducePow, Int.reducePow, Nat.reduceEqDiff, decide_true, decide_false, reduceIte, reduceCtorEq, Int.reduceBEq, Int.reduceBNe, bne_self_eq_false, Int.cast_ofNat_Int, Bool.not_true, Bool.not_false, IntKind.bits]
  refine hco _ _ ?_
  have hx8 : x.l.length = 8 := rfl
  have hdr : (pre ++ x.l ++ post).drop pre.length = x.l ++ post := by rw [List.append_assoc, List.drop_left]
  have htk : (x.l ++ post).take 8 = x.l := List.take_left' hx8
  have hle : pre.length + 8 ≤ (pre ++ x.l ++ post).length := by simp only [List.length_append, hx8]; omega
  simp only [hZ, wl, w1, kl, k1, zl, zd, hp_get_old _ _ _ hlt, hg, hdr, htk, hle, go_sem, Nat.reduceLeDiff, Nat.reduceAdd, Nat.reduceSub, Nat.reduceMul, Nat.reduceLT, Int.reduceLT, Int.reduceLE, Int.reduceAdd, Int.reduceSub, Int.reduceMul, Int.reduceToNat, Int.reduceNeg, Int.reduceEq, Nat.reducePow, Int.reducePow, Nat.reduceEqDiff, decide_true, decide_false, reduceIte, reduceCtorEq, Int.reduceBEq, Int.reduceBNe, bne_self_eq_false, Int.cast_ofNat_Int, Bool.not_true, Bool.not_false, IntKind.bits]
  simp only [S8.l, u32V, go_sem, Nat.reduceLeDiff, Nat.reduceAdd, Nat.reduceSub, Nat.reduceMul, Nat.reduceLT, Int.reduceLT, Int.reduceLE, Int.reduceAdd, Int.reduceSub, Int.reduceMul, Int.reduceToNat, Int.reduceNeg, Int.reduceEq, Nat.reducePow, Int.reducePow, Nat.reduceEqDiff, decide_true, decide_false, reduceIte, reduceCtorEq, Int.reduceBEq, Int.reduceBNe, bne_self_eq_false, Int.cast_ofNat_Int, Bool.not_true, Bool.not_false, IntKind.bits]
  refine go_loop mono (σ := Nat) (fun i => .ptr id gen pre.length :: .wr id gen off 64 1 :: .top :: .top :: .ptr (H.next + 0) 0 0 :: .ptr (H.next + 1) 0 0 :: .ptr (H.next + 2) 0 0 :: .top :: .top :: .top :: .top :: .top :: .top :: .top :: .top :: .top :: .top :: .top :: .top :: .top :: .top :: .int .i64 (i : Int) :: tops 79)
    (fun i => hp H [.row 183 0 WS, .row 183 0 KS, .row 176 0 [.int .u32 (((rounds8 ks ws x i).a).toNat : Int), .int .u32 (((rounds8 ks ws x i).b).toNat : Int), .int .u32 (((rounds8 ks ws x i).c).toNat : Int), .int .u32 (((rounds8 ks ws x i).d).toNat : Int), .int .u32 (((rounds8 ks ws x i).e).toNat : Int), .int .u32 (((rounds8 ks ws x i).f).toNat : Int), .int .u32 (((rounds8 ks ws x i).g).toNat : Int), .int .u32 (((rounds8 ks ws x i).h).toNat : Int)]]) (fun i => i ≤ 64) (fun i => 64 - i) 0 ?_ rfl (Nat.zero_le _) (fun i hi J hJ => ?_)
  · simp only [tops_succ, tops_zero]
    repeat first | exact forget_nil | apply forget_keep | apply forget_top
  simp only [go_sem, Nat.reduceLeDiff, Nat.reduceAdd, Nat.reduceSub, Nat.reduceMul, Nat.reduceLT, Int.reduceLT, Int.reduceLE, Int.reduceAdd, Int.reduceSub, Int.reduceMul, Int.reduceToNat, Int.reduceNeg, Int.reduceEq, Nat.reducePow, Int.reducePow, Nat.reduceEqDiff, decide_true, decide_false, reduceIte, reduceCtorEq, Int.reduceBEq, Int.reduceBNe, bne_self_eq_false, Int.cast_ofNat_Int, Bool.not_true, Bool.not_false, IntKind.bits]
  refine cnd_split (fun h1 => ?_) (fun h1 => ?_)
  · have hi' : i < 64 := by simp at h1; omega
    have hc : ((i : Int) < 64) = True := by simp; omega
    have hsm : (if IntKind.signed .u32 = true then (-1 : Int) else IntKind.max .u32) = 4294967295 := by decide
    have kgi := kg i hi'
    have wgi := wg i hi'
    have hrd : rounds8 ks ws x (i + 1) = round8 (rounds8 ks ws x i) (ks.getD i 0) (ws.getD i 0) := rfl
    have hJ' := hJ (i + 1)
    rw [hrd] at hJ'
    generalize rounds8 ks ws x i = y at hJ' ⊢
    simp only [hc, kgi, wgi, xor_bv32, and_bv32, not_bv32, add_bv32, aun_not, hsm, Nat.min_self, Nat.mul_one, wnext hi' (by decide : 64 ≤ 9223372036854775807), go_sem, Nat.reduceLeDiff, Nat.reduceAdd, Nat.reduceSub, Nat.reduceMul, Nat.reduceLT, Int.reduceLT, Int.reduceLE, Int.reduceAdd, Int.reduceSub, Int.reduceMul, Int.reduceToNat, Int.reduceNeg, Int.reduceEq, Nat.reducePow, Int.reducePow, Nat.reduceEqDiff, decide_true, decide_false, reduceIte, reduceCtorEq, Int.reduceBEq, Int.reduceBNe, bne_self_eq_false, Int.cast_ofNat_Int, Bool.not_true, Bool.not_false, IntKind.bits]
    refine ⟨_, turned_a (a := 6) (b := 11) (c := 25) (by decide) (by decide) (by decide) (by decide) (by decide) (by decide) ⟨rfl, rfl⟩, ?_⟩
    simp only [hc, kgi, wgi, xor_bv32, and_bv32, not_bv32, add_bv32, aun_not, hsm, Nat.min_self, Nat.mul_one, wnext hi' (by decide : 64 ≤ 9223372036854775807), go_sem, Nat.reduceLeDiff, Nat.reduceAdd, Nat.reduceSub, Nat.reduceMul, Nat.reduceLT, Int.reduceLT, Int.reduceLE, Int.reduceAdd, Int.reduceSub, Int.reduceMul, Int.reduceToNat, Int.reduceNeg, Int.reduceEq, Nat.reducePow, Int.reducePow, Nat.reduceEqDiff, decide_true, decide_false, reduceIte, reduceCtorEq, Int.reduceBEq, Int.reduceBNe, bne_self_eq_false, Int.cast_ofNat_Int, Bool.not_true, Bool.not_false, IntKind.bits]
    refine ⟨_, turned_a (a := 2) (b := 13) (c := 22) (by decide) (by decide) (by decide) (by decide) (by decide) (by decide) ⟨rfl, rfl⟩, ?_⟩
    simp only [hc, kgi, wgi, xor_bv32, and_bv32, not_bv32, add_bv32, aun_not, hsm, Nat.min_self, Nat.mul_one, wnext hi' (by decide : 64 ≤ 9223372036854775807), go_sem, Nat.reduceLeDiff, Nat.reduceAdd, Nat.reduceSub, Nat.reduceMul, Nat.reduceLT, Int.reduceLT, Int.reduceLE, Int.reduceAdd, Int.reduceSub, Int.reduceMul, Int.reduceToNat, Int.reduceNeg, Int.reduceEq, Nat.reducePow, Int.reducePow, Nat.reduceEqDiff, decide_true, decide_false, reduceIte, reduceCtorEq, Int.reduceBEq, Int.reduceBNe, bne_self_eq_false, Int.cast_ofNat_Int, Bool.not_true, Bool.not_false, IntKind.bits]
    refine hJ' _ (by omega) (by omega) ?_
    simp only [tops_succ, tops_zero]
    repeat first | exact forget_nil | apply forget_keep | apply forget_top
  · have hi' : i = 64 := by simp at h1; omega
    subst hi'
    generalize rounds8 ks ws x 64 = y at h ⊢
    simp only [go_sem, Nat.reduceLeDiff, Nat.reduceAdd, Nat.reduceSub, Nat.reduceMul, Nat.reduceLT, Int.reduceLT, Int.reduceLE, Int.reduceAdd, Int.reduceSub, Int.reduceMul, Int.reduceToNat, Int.reduceNeg, Int.reduceEq, Nat.reducePow, Int.reducePow, Nat.reduceEqDiff, decide_true, decide_false, reduceIte, reduceCtorEq, Int.reduceBEq, Int.reduceBNe, bne_self_eq_false, Int.cast_ofNat_Int, Bool.not_true, Bool.not_false, IntKind.bits]
    have hcs : ∀ v : BitVec 32, u32V v = .int .u32 (v.toNat : Int) := fun v => rfl
    refine go_rounds mono 9 ?_
    have v1 : IntKind.wrap .i64 1 = 1 := by decide
    have v2 : IntKind.wrap .i64 2 = 2 := by decide
    have v3 : IntKind.wrap .i64 3 = 3 := by decide
    have v4 : IntKind.wrap .i64 4 = 4 := by decide
    have v5 : IntKind.wrap .i64 5 = 5 := by decide
    have v6 : IntKind.wrap .i64 6 = 6 := by decide
    have v7 : IntKind.wrap .i64 7 = 7 := by decide
    have v8 : IntKind.wrap .i64 8 = 8 := by decide
    simp (maxSteps := 4000000) (disch := (first | omega | (simp only [set_next, List.length_append, List.length_cons, List.length_nil, List.length_take, List.length_drop, List.length_map, List.length_set, List.length_replicate]; omega) | (simp only [set_next, ne_eq, reduceCtorEq, not_false_eq_true]))) only [rnds_succ, v1, v2, v3, v4, v5, v6, v7, v8, add_bv32, Nat.mul_one, hg, mid_get, mid_put, mid_len, S8.l, u32V, go_sem, Nat.reduceLeDiff, Nat.reduceAdd, Nat.reduceSub, Nat.reduceMul, Nat.reduceLT, Int.reduceLT, Int.reduceLE, Int.reduceAdd, Int.reduceSub, Int.reduceMul, Int.reduceToNat, Int.reduceNeg, Int.reduceEq, Nat.reducePow, Int.reducePow, Nat.reduceEqDiff, decide_true, decide_false, reduceIte, reduceCtorEq, Int.reduceBEq, Int.reduceBNe, bne_self_eq_false, Int.cast_ofNat_Int, Bool.not_true, Bool.not_false, IntKind.bits, w_nat, w_lit, w_add, w_addl, w_ladd, w_sub, w_subl, w_lsub, w_mul, w_mull, w_lmul, t_div, t_divl, t_mod, t_modl, i_lt, i_ltl, i_llt, i_le, i_lel, i_lle, i_eq, i_eql, i_leq, Nat.zero_le, d_beq, d_bne, d_bytes, byte_at, Int.toNat_natCast, toNat_lit, decide_eq_true, decide_eq_false, if_pos, if_neg, slA_len, slA_idx, slA_cells, flat_slA, one_slA, cells_slA, map_mid, strV_is, hp_get1, hp_get2, hp_get3, hp_set1, hp_set2, hp_set3, hp_old, hp_sold, set_got, set_set, set_next, set_other, bytesL, bytes_all, List.length_map, aapp_nils, aapp_wr, List.flatMap_cons, List.flatMap_nil, Nat.mul_one]
    have hc := within_cells hs hg
    rw [u_app, u_app] at hc
    refine aret_old (set_next _ _ _) (within_set hs ?_) (.tup _ (u_nil _ ▸ trivial : AllU _ [])) ?_
    · simp only [hc, u_top, u_bool, u_int, u_str, u_nilp, u_nils, u_nilf, u_nilm, u_nili, u_emp, u_byteV, u_ptr, u_wr, u_agg, u_tup, u_rd, u_imm, u_func, u_nil, u_cons, u_app, uc_nil, uc_cons, uc_app, u_bytes, uc_bytes, u_ints, uc_ints, cells_bool, cells_int, cells_str, cells_agg, cells_ptr, cells_nils, cells_imm, cells_wr, cells_nilp, cells_nilf, cells_nilm, cells_rd, cells_emp, cells_byteV, cells_func, and_self, and_true, true_and, u_slA, uc_strs, cells_slA, strV_is]
    · simp only [add8, S8.l, u32V] at h
      exact h
end Go.Proofs.Ytblflecalomgfaa.AL
