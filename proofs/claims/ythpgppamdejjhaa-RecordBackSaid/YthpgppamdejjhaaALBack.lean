/- The law RecordBack told. -/
import Derived.Test.YthpgppamdejjhaaALDBack
import Derived.Test.YthpgppamdejjhaaALRec
import Derived.Test.YthpgppamdejjhaaALRecFlip
import Derived.Test.YthpgppamdejjhaaALOpen
set_option linter.unusedSimpArgs false
set_option linter.unusedVariables false
set_option maxRecDepth 100000
namespace Go.Proofs.Ythpgppamdejjhaa.AL
open Go Go.Proofs Go.Proofs.Ythpgppamdejjhaa.G
attribute [local go_sem] go_seq go_skip go_region go_cond go_block go_exit go_ret nxt_nil nxt_code nxt_blk nxt_cut leave_nil leave_code leave_cut leave_blk rtn_nil rtn_code rtn_blk rtn_cut cnd_t cnd_f rgn_nil rgY_some rgY_none rgH_some rgP_some retTo_is rgV_func grd_und grd_tt grd_ff grd_tf grd_ft rgn_q rgn_alloc rgn_box rgn_store rgn_lit rgn_app rgn_copy rgn_mk rgn_s2b rgn_call rgn_callv rgn_c rgn_guard post_ret post_normal retY_some ares aresL ares1 AX.ev aput List.getD_cons_zero List.getD_cons_succ List.set_cons_zero List.set_cons_succ List.map_cons List.map_nil aq abin aint astr abeq aconv asame aextract alenS alenL aun apart aload afieldAddr afield aidxSl aidxPt aidxStr aidxArr alen abound asliceStr asliceSl abest anonil afill astore acells acopy litAll amk as2b anil nilOf aseq aeqs aeqv fits fit1 hp_next hp_push hp_get hp_set List.length_cons List.length_nil List.getElem?_cons_zero List.getElem?_cons_succ List.cons_append List.nil_append List.append_nil List.take_succ_cons List.take_zero List.drop_succ_cons List.drop_zero List.all_cons List.all_nil Option.map_some Option.some.injEq Bool.and_true Bool.true_and Bool.false_eq_true if_true if_false ite_true ite_false Bool.and_self true_and and_true and_self Nat.zero_add Nat.le_refl Int.toNat_natCast beq_self_eq_true eq_self tops_zero tops_succ Int.natCast_nonneg List.take_nil List.drop_nil Option.map_none flat_bool one_bool cells_bool flat_int one_int cells_int flat_str one_str cells_str flat_nilp one_nilp cells_nilp flat_ptr one_ptr cells_ptr flat_nils one_nils cells_nils flat_imm one_imm cells_imm flat_wr one_wr cells_wr flat_func one_func cells_func flat_nilf one_nilf cells_nilf flat_map one_map cells_map flat_nilm one_nilm cells_nilm flat_iface one_iface cells_iface flat_nili one_nili cells_nili flat_rd one_rd cells_rd flat_emp one_emp cells_emp flat_byteV one_byteV cells_byteV flat_agg cells_agg one_agg B_size B_list B_ext B_toList B_app List.take_length Int.le_refl
theorem aw20 : bodyL 7 [97, 61, 49] = ([0, 0, 0, 7, 0, 0, 0, 3] ++ four (crcOf call ([0, 0, 0, 7, 0, 0, 0, 3] ++ [97, 61, 49])) ++ [97, 61, 49], 0) := by kernel_rfl
theorem awake20_a {H : AHeap} {K : AV → AHeap → Prop} (h : K (.bool true) H) : (ACalls Try.prog) 30 [] H K := by
  refine acalls_go mo t30 (fun hs hu => ?_)
  simp only [c30, go_sem, Nat.reduceLeDiff, Nat.reduceAdd, Nat.reduceSub, Nat.reduceMul, Nat.reduceLT, Int.reduceLT, Int.reduceLE, Int.reduceAdd, Int.reduceSub, Int.reduceMul, Int.reduceToNat, Int.reduceNeg, Int.reduceEq, Nat.reducePow, Int.reducePow, Nat.reduceEqDiff, decide_true, decide_false, reduceIte, reduceCtorEq, Int.reduceBEq, Int.reduceBNe, bne_self_eq_false, Int.cast_ofNat_Int, Bool.not_true, Bool.not_false, IntKind.bits]
  refine body_a ?_
  have l1 : (bodyL 7 [97, 61, 49]).1.length = 15 := by kernel_rfl
  have l2 : (bodyL 7 [97, 61, 49]).2 = 0 := by kernel_rfl
  have w1 : recL (80 :: 69 :: 78 :: 86 :: ((bodyL 7 [97, 61, 49]).1 ++ [255, 255])) = (7, [97, 61, 49], 0) := recL_sector 7 [97, 61, 49] [255, 255] (by decide) (by decide) (by decide)
  have w2 : recL (80 :: 69 :: 78 :: 88 :: (bodyL 7 [97, 61, 49]).1) = (0, [], 6) := recL_unmarked _ (by simp [l1]) (by simp [penv])
  have w3 : newerB 0 4294967295 = true := by kernel_rfl
  have w4 : nextN 4294967295 = 0 := by kernel_rfl
  simp only [bodyV, l2]
  generalize (bodyL 7 [97, 61, 49]).1 = s at l1 w1 w2 ⊢
  simp only [l1, List.length_append, go_sem, Nat.reduceLeDiff, Nat.reduceAdd, Nat.reduceSub, Nat.reduceMul, Nat.reduceLT, Int.reduceLT, Int.reduceLE, Int.reduceAdd, Int.reduceSub, Int.reduceMul, Int.reduceToNat, Int.reduceNeg, Int.reduceEq, Nat.reducePow, Int.reducePow, Nat.reduceEqDiff, decide_true, decide_false, reduceIte, reduceCtorEq, Int.reduceBEq, Int.reduceBNe, bne_self_eq_false, Int.cast_ofNat_Int, Bool.not_true, Bool.not_false, IntKind.bits]
  refine read_a (by simp [l1]) ?_
  simp only [w1, recV, l1, go_sem, Nat.reduceLeDiff, Nat.reduceAdd, Nat.reduceSub, Nat.reduceMul, Nat.reduceLT, Int.reduceLT, Int.reduceLE, Int.reduceAdd, Int.reduceSub, Int.reduceMul, Int.reduceToNat, Int.reduceNeg, Int.reduceEq, Nat.reducePow, Int.reducePow, Nat.reduceEqDiff, decide_true, decide_false, reduceIte, reduceCtorEq, Int.reduceBEq, Int.reduceBNe, bne_self_eq_false, Int.cast_ofNat_Int, Bool.not_true, Bool.not_false, IntKind.bits]
  refine read_a (by simp [l1]) ?_
  simp only [w2, recV, l1, go_sem, Nat.reduceLeDiff, Nat.reduceAdd, Nat.reduceSub, Nat.reduceMul, Nat.reduceLT, Int.reduceLT, Int.reduceLE, Int.reduceAdd, Int.reduceSub, Int.reduceMul, Int.reduceToNat, Int.reduceNeg, Int.reduceEq, Nat.reducePow, Int.reducePow, Nat.reduceEqDiff, decide_true, decide_false, reduceIte, reduceCtorEq, Int.reduceBEq, Int.reduceBNe, bne_self_eq_false, Int.cast_ofNat_Int, Bool.not_true, Bool.not_false, IntKind.bits]
  refine newer_a ?_
  simp only [w3, go_sem, Nat.reduceLeDiff, Nat.reduceAdd, Nat.reduceSub, Nat.reduceMul, Nat.reduceLT, Int.reduceLT, Int.reduceLE, Int.reduceAdd, Int.reduceSub, Int.reduceMul, Int.reduceToNat, Int.reduceNeg, Int.reduceEq, Nat.reducePow, Int.reducePow, Nat.reduceEqDiff, decide_true, decide_false, reduceIte, reduceCtorEq, Int.reduceBEq, Int.reduceBNe, bne_self_eq_false, Int.cast_ofNat_Int, Bool.not_true, Bool.not_false, IntKind.bits]
  refine next_a ?_
  simp only [w4, go_sem, Nat.reduceLeDiff, Nat.reduceAdd, Nat.reduceSub, Nat.reduceMul, Nat.reduceLT, Int.reduceLT, Int.reduceLE, Int.reduceAdd, Int.reduceSub, Int.reduceMul, Int.reduceToNat, Int.reduceNeg, Int.reduceEq, Nat.reducePow, Int.reducePow, Nat.reduceEqDiff, decide_true, decide_false, reduceIte, reduceCtorEq, Int.reduceBEq, Int.reduceBNe, bne_self_eq_false, Int.cast_ofNat_Int, Bool.not_true, Bool.not_false, IntKind.bits]
  exact aret_plain hs (.bool _) h
theorem recL_flip2 (n : Int) (d : List UInt8) (h0 : 0 ≤ n) (h1 : n < 4294967296) (hd : d.length ≤ 496) (k : Nat) (v w : UInt8) (hw : (penv ++ (bodyL n d).1)[k]? = some w) (hv : v ≠ w) (h8 : ¬ (8 ≤ k ∧ k < 12)) :
    ∃ e : Int, e ≠ 0 ∧ recL ((penv ++ (bodyL n d).1).set k v) = (0, [], e) := by
  obtain ⟨hk, rfl⟩ := List.getElem?_eq_some_iff.1 hw
  exact recL_flip n d h0 h1 hd k v hk hv h8
theorem recordBack_a {n : Int} {d more : List UInt8} {m : Int} {H : AHeap} {K : AV → AHeap → Prop} (hm0 : 0 ≤ m) (hm1 : m < 4294967296) (h : K (.bool true) H) : (ACalls Try.prog) 9 [.agg [.int .i64 n, .str (B d)], .str (B more), .int .u32 m] H K := by
  refine acalls_go mo t9 (fun hs hu => ?_)
  have hv : IntKind.wrap .u8 (m / 65536) = ((b8 (m / 65536)).toNat : Int) := by rw [b8_num, IntKind.wrap_u8]
  generalize b8 (m / 65536) = u at hv
  simp (disch := omega) only [c9, shr_u32, hv, go_sem, Nat.reduceLeDiff, Nat.reduceAdd, Nat.reduceSub, Nat.reduceMul, Nat.reduceLT, Int.reduceLT, Int.reduceLE, Int.reduceAdd, Int.reduceSub, Int.reduceMul, Int.reduceToNat, Int.reduceNeg, Int.reduceEq, Nat.reducePow, Int.reducePow, Nat.reduceEqDiff, decide_true, decide_false, reduceIte, reduceCtorEq, Int.reduceBEq, Int.reduceBNe, bne_self_eq_false, Int.cast_ofNat_Int, Bool.not_true, Bool.not_false, IntKind.bits]
  refine grd_split (fun h1 => ?_) (fun h1 => ?_)
  · simp only [h1, go_sem, Nat.reduceLeDiff, Nat.reduceAdd, Nat.reduceSub, Nat.reduceMul, Nat.reduceLT, Int.reduceLT, Int.reduceLE, Int.reduceAdd, Int.reduceSub, Int.reduceMul, Int.reduceToNat, Int.reduceNeg, Int.reduceEq, Nat.reducePow, Int.reducePow, Nat.reduceEqDiff, decide_true, decide_false, reduceIte, reduceCtorEq, Int.reduceBEq, Int.reduceBNe, bne_self_eq_false, Int.cast_ofNat_Int, Bool.not_true, Bool.not_false, IntKind.bits]
    refine awake20_a ?_
    simp only [go_sem, Nat.reduceLeDiff, Nat.reduceAdd, Nat.reduceSub, Nat.reduceMul, Nat.reduceLT, Int.reduceLT, Int.reduceLE, Int.reduceAdd, Int.reduceSub, Int.reduceMul, Int.reduceToNat, Int.reduceNeg, Int.reduceEq, Nat.reducePow, Int.reducePow, Nat.reduceEqDiff, decide_true, decide_false, reduceIte, reduceCtorEq, Int.reduceBEq, Int.reduceBNe, bne_self_eq_false, Int.cast_ofNat_Int, Bool.not_true, Bool.not_false, IntKind.bits]
    exact aret_plain hs (.bool _) h
  have hd : d.length ≤ 496 := by simp at h1; omega
  simp only [h1, go_sem, Nat.reduceLeDiff, Nat.reduceAdd, Nat.reduceSub, Nat.reduceMul, Nat.reduceLT, Int.reduceLT, Int.reduceLE, Int.reduceAdd, Int.reduceSub, Int.reduceMul, Int.reduceToNat, Int.reduceNeg, Int.reduceEq, Nat.reducePow, Int.reducePow, Nat.reduceEqDiff, decide_true, decide_false, reduceIte, reduceCtorEq, Int.reduceBEq, Int.reduceBNe, bne_self_eq_false, Int.cast_ofNat_Int, Bool.not_true, Bool.not_false, IntKind.bits]
  refine cnd_split (fun h2 => ?_) (fun h2 => ?_)
  · simp only [h2, go_sem, Nat.reduceLeDiff, Nat.reduceAdd, Nat.reduceSub, Nat.reduceMul, Nat.reduceLT, Int.reduceLT, Int.reduceLE, Int.reduceAdd, Int.reduceSub, Int.reduceMul, Int.reduceToNat, Int.reduceNeg, Int.reduceEq, Nat.reducePow, Int.reducePow, Nat.reduceEqDiff, decide_true, decide_false, reduceIte, reduceCtorEq, Int.reduceBEq, Int.reduceBNe, bne_self_eq_false, Int.cast_ofNat_Int, Bool.not_true, Bool.not_false, IntKind.bits]
    refine awake20_a ?_
    simp only [go_sem, Nat.reduceLeDiff, Nat.reduceAdd, Nat.reduceSub, Nat.reduceMul, Nat.reduceLT, Int.reduceLT, Int.reduceLE, Int.reduceAdd, Int.reduceSub, Int.reduceMul, Int.reduceToNat, Int.reduceNeg, Int.reduceEq, Nat.reducePow, Int.reducePow, Nat.reduceEqDiff, decide_true, decide_false, reduceIte, reduceCtorEq, Int.reduceBEq, Int.reduceBNe, bne_self_eq_false, Int.cast_ofNat_Int, Bool.not_true, Bool.not_false, IntKind.bits]
    exact aret_plain hs (.bool _) h
  have hmo : more.length ≤ 100 := by simp at h2; omega
  simp only [h2, go_sem, Nat.reduceLeDiff, Nat.reduceAdd, Nat.reduceSub, Nat.reduceMul, Nat.reduceLT, Int.reduceLT, Int.reduceLE, Int.reduceAdd, Int.reduceSub, Int.reduceMul, Int.reduceToNat, Int.reduceNeg, Int.reduceEq, Nat.reducePow, Int.reducePow, Nat.reduceEqDiff, decide_true, decide_false, reduceIte, reduceCtorEq, Int.reduceBEq, Int.reduceBNe, bne_self_eq_false, Int.cast_ofNat_Int, Bool.not_true, Bool.not_false, IntKind.bits]
  refine body_a ?_
  by_cases hn : n < 0 ∨ 4294967295 < n
  · have hb : bodyL n d = ([], 1) := by unfold bodyL; rw [if_pos hn]
    simp only [hb, bodyV, go_sem, Nat.reduceLeDiff, Nat.reduceAdd, Nat.reduceSub, Nat.reduceMul, Nat.reduceLT, Int.reduceLT, Int.reduceLE, Int.reduceAdd, Int.reduceSub, Int.reduceMul, Int.reduceToNat, Int.reduceNeg, Int.reduceEq, Nat.reducePow, Int.reducePow, Nat.reduceEqDiff, decide_true, decide_false, reduceIte, reduceCtorEq, Int.reduceBEq, Int.reduceBNe, bne_self_eq_false, Int.cast_ofNat_Int, Bool.not_true, Bool.not_false, IntKind.bits]
    refine grd_split (fun h3 => ?_) (fun h3 => ?_)
    · simp only [h3, go_sem, Nat.reduceLeDiff, Nat.reduceAdd, Nat.reduceSub, Nat.reduceMul, Nat.reduceLT, Int.reduceLT, Int.reduceLE, Int.reduceAdd, Int.reduceSub, Int.reduceMul, Int.reduceToNat, Int.reduceNeg, Int.reduceEq, Nat.reducePow, Int.reducePow, Nat.reduceEqDiff, decide_true, decide_false, reduceIte, reduceCtorEq, Int.reduceBEq, Int.reduceBNe, bne_self_eq_false, Int.cast_ofNat_Int, Bool.not_true, Bool.not_false, IntKind.bits]
      refine awake20_a ?_
      simp only [go_sem, Nat.reduceLeDiff, Nat.reduceAdd, Nat.reduceSub, Nat.reduceMul, Nat.reduceLT, Int.reduceLT, Int.reduceLE, Int.reduceAdd, Int.reduceSub, Int.reduceMul, Int.reduceToNat, Int.reduceNeg, Int.reduceEq, Nat.reducePow, Int.reducePow, Nat.reduceEqDiff, decide_true, decide_false, reduceIte, reduceCtorEq, Int.reduceBEq, Int.reduceBNe, bne_self_eq_false, Int.cast_ofNat_Int, Bool.not_true, Bool.not_false, IntKind.bits]
      exact aret_plain hs (.bool _) h
    · have h4 : decide (4294967295 < n) = true := by simp at h3 ⊢; omega
      simp only [h3, h4, go_sem, Nat.reduceLeDiff, Nat.reduceAdd, Nat.reduceSub, Nat.reduceMul, Nat.reduceLT, Int.reduceLT, Int.reduceLE, Int.reduceAdd, Int.reduceSub, Int.reduceMul, Int.reduceToNat, Int.reduceNeg, Int.reduceEq, Nat.reducePow, Int.reducePow, Nat.reduceEqDiff, decide_true, decide_false, reduceIte, reduceCtorEq, Int.reduceBEq, Int.reduceBNe, bne_self_eq_false, Int.cast_ofNat_Int, Bool.not_true, Bool.not_false, IntKind.bits]
      refine awake20_a ?_
      simp only [go_sem, Nat.reduceLeDiff, Nat.reduceAdd, Nat.reduceSub, Nat.reduceMul, Nat.reduceLT, Int.reduceLT, Int.reduceLE, Int.reduceAdd, Int.reduceSub, Int.reduceMul, Int.reduceToNat, Int.reduceNeg, Int.reduceEq, Nat.reducePow, Int.reducePow, Nat.reduceEqDiff, decide_true, decide_false, reduceIte, reduceCtorEq, Int.reduceBEq, Int.reduceBNe, bne_self_eq_false, Int.cast_ofNat_Int, Bool.not_true, Bool.not_false, IntKind.bits]
      exact aret_plain hs (.bool _) h
  have hn0 : 0 ≤ n := by omega
  have hn1 : n < 4294967296 := by omega
  have hE : (bodyL n d).2 = 0 := by rw [body_ok hn0 hn1 hd]
  have hL : (bodyL n d).1.length = 12 + d.length := by rw [body_ok hn0 hn1 hd]; simp [four_len]; omega
  have w1 : recL (80 :: 69 :: 78 :: 86 :: ((bodyL n d).1 ++ more)) = (n, d, 0) := recL_sector n d more hn0 hn1 hd
  have hfl := recL_flip2 n d hn0 hn1 hd
  have hpp : penv ++ (bodyL n d).1 = 80 :: 69 :: 78 :: 86 :: (bodyL n d).1 := rfl
  simp only [hpp] at hfl
  simp only [bodyV, hE]
  generalize (bodyL n d).1 = s at hL w1 hfl ⊢
  have h5 : 4 + s.length ≤ 9223372036854775807 := by omega
  have h6 : s.length + 1 + 1 + 1 + 1 + more.length ≤ 9223372036854775807 := by omega
  simp only [h5, h6, go_sem, Nat.reduceLeDiff, Nat.reduceAdd, Nat.reduceSub, Nat.reduceMul, Nat.reduceLT, Int.reduceLT, Int.reduceLE, Int.reduceAdd, Int.reduceSub, Int.reduceMul, Int.reduceToNat, Int.reduceNeg, Int.reduceEq, Nat.reducePow, Int.reducePow, Nat.reduceEqDiff, decide_true, decide_false, reduceIte, reduceCtorEq, Int.reduceBEq, Int.reduceBNe, bne_self_eq_false, Int.cast_ofNat_Int, Bool.not_true, Bool.not_false, IntKind.bits]
  refine read_a (by simp; omega) ?_
  have hlen : s.length + 1 + 1 + 1 + 1 = 16 + d.length := by omega
  have hw16 : IntKind.wrap .i64 (16 + (d.length : Int)) = ((16 + d.length : Nat) : Int) := by rw [wi64 (by omega) (by omega)]; omega
  have hmax : 16 + d.length ≤ 9223372036854775807 := by omega
  simp only [w1, recV, hlen, hw16, go_sem, Nat.reduceLeDiff, Nat.reduceAdd, Nat.reduceSub, Nat.reduceMul, Nat.reduceLT, Int.reduceLT, Int.reduceLE, Int.reduceAdd, Int.reduceSub, Int.reduceMul, Int.reduceToNat, Int.reduceNeg, Int.reduceEq, Nat.reducePow, Int.reducePow, Nat.reduceEqDiff, decide_true, decide_false, reduceIte, reduceCtorEq, Int.reduceBEq, Int.reduceBNe, bne_self_eq_false, Int.cast_ofNat_Int, Bool.not_true, Bool.not_false, IntKind.bits]
  refine cnd_split (fun h7 => ?_) (fun h7 => ?_)
  · simp only [h7, go_sem, Nat.reduceLeDiff, Nat.reduceAdd, Nat.reduceSub, Nat.reduceMul, Nat.reduceLT, Int.reduceLT, Int.reduceLE, Int.reduceAdd, Int.reduceSub, Int.reduceMul, Int.reduceToNat, Int.reduceNeg, Int.reduceEq, Nat.reducePow, Int.reducePow, Nat.reduceEqDiff, decide_true, decide_false, reduceIte, reduceCtorEq, Int.reduceBEq, Int.reduceBNe, bne_self_eq_false, Int.cast_ofNat_Int, Bool.not_true, Bool.not_false, IntKind.bits]
    refine awake20_a ?_
    simp only [go_sem, Nat.reduceLeDiff, Nat.reduceAdd, Nat.reduceSub, Nat.reduceMul, Nat.reduceLT, Int.reduceLT, Int.reduceLE, Int.reduceAdd, Int.reduceSub, Int.reduceMul, Int.reduceToNat, Int.reduceNeg, Int.reduceEq, Nat.reducePow, Int.reducePow, Nat.reduceEqDiff, decide_true, decide_false, reduceIte, reduceCtorEq, Int.reduceBEq, Int.reduceBNe, bne_self_eq_false, Int.cast_ofNat_Int, Bool.not_true, Bool.not_false, IntKind.bits]
    exact aret_plain hs (.bool _) h
  have hu0 : u ≠ 0 := by rintro rfl; simp at h7
  have hnz : (((16 + d.length : Nat) : Int) = 0) = False := by simp; omega
  obtain ⟨kk, hkk, hkb⟩ : ∃ kk : Nat, (IntKind.wrap .i64 (m.tmod 65536)).tmod ((16 + d.length : Nat) : Int) = (kk : Int) ∧ kk < 16 + d.length := by
    refine ⟨(m % 65536).toNat % (16 + d.length), ?_, Nat.mod_lt _ (by omega)⟩
    rw [Int.tmod_eq_emod_of_nonneg hm0, wi64 (by omega) (by omega), Int.tmod_eq_emod_of_nonneg (by omega), Int.natCast_emod, Int.toNat_of_nonneg (by omega)]
  obtain ⟨l, hl⟩ : ∃ l, l = 80 :: 69 :: 78 :: 86 :: s := ⟨_, rfl⟩
  have hll : l.length = 16 + d.length := by rw [hl]; simp; omega
  have hrow : byteV 80 :: byteV 69 :: byteV 78 :: byteV 86 :: List.map byteV s = l.map byteV := by rw [hl]; rfl
  simp only [← hl] at hfl
  have hkl : kk < l.length := by omega
  have hc : ((kk : Int) < ((16 + d.length : Nat) : Int)) = True := by simp only [eq_iff_iff, iff_true]; omega
  have hk3 : kk + 1 ≤ 16 + d.length := by omega
  have hxor : l[kk] ^^^ u ≠ l[kk] := by
    intro he
    apply hu0
    have := congrArg (fun x => l[kk] ^^^ x) he
    simpa [← UInt8.xor_assoc] using this
  simp only [h7, hmax, hlen, hnz, hkk, hrow, go_sem, Nat.reduceLeDiff, Nat.reduceAdd, Nat.reduceSub, Nat.reduceMul, Nat.reduceLT, Int.reduceLT, Int.reduceLE, Int.reduceAdd, Int.reduceSub, Int.reduceMul, Int.reduceToNat, Int.reduceNeg, Int.reduceEq, Nat.reducePow, Int.reducePow, Nat.reduceEqDiff, decide_true, decide_false, reduceIte, reduceCtorEq, Int.reduceBEq, Int.reduceBNe, bne_self_eq_false, Int.cast_ofNat_Int, Bool.not_true, Bool.not_false, IntKind.bits]
  refine grd_split (fun h8 => ?_) (fun h8 => ?_)
  · simp only [h8, go_sem, Nat.reduceLeDiff, Nat.reduceAdd, Nat.reduceSub, Nat.reduceMul, Nat.reduceLT, Int.reduceLT, Int.reduceLE, Int.reduceAdd, Int.reduceSub, Int.reduceMul, Int.reduceToNat, Int.reduceNeg, Int.reduceEq, Nat.reducePow, Int.reducePow, Nat.reduceEqDiff, decide_true, decide_false, reduceIte, reduceCtorEq, Int.reduceBEq, Int.reduceBNe, bne_self_eq_false, Int.cast_ofNat_Int, Bool.not_true, Bool.not_false, IntKind.bits]
    refine cnd_split (fun h9 => ?_) (fun h9 => ?_)
    · simp only [h9, go_sem, Nat.reduceLeDiff, Nat.reduceAdd, Nat.reduceSub, Nat.reduceMul, Nat.reduceLT, Int.reduceLT, Int.reduceLE, Int.reduceAdd, Int.reduceSub, Int.reduceMul, Int.reduceToNat, Int.reduceNeg, Int.reduceEq, Nat.reducePow, Int.reducePow, Nat.reduceEqDiff, decide_true, decide_false, reduceIte, reduceCtorEq, Int.reduceBEq, Int.reduceBNe, bne_self_eq_false, Int.cast_ofNat_Int, Bool.not_true, Bool.not_false, IntKind.bits]
      refine awake20_a ?_
      simp only [go_sem, Nat.reduceLeDiff, Nat.reduceAdd, Nat.reduceSub, Nat.reduceMul, Nat.reduceLT, Int.reduceLT, Int.reduceLE, Int.reduceAdd, Int.reduceSub, Int.reduceMul, Int.reduceToNat, Int.reduceNeg, Int.reduceEq, Nat.reducePow, Int.reducePow, Nat.reduceEqDiff, decide_true, decide_false, reduceIte, reduceCtorEq, Int.reduceBEq, Int.reduceBNe, bne_self_eq_false, Int.cast_ofNat_Int, Bool.not_true, Bool.not_false, IntKind.bits]
      exact aret_plain hs (.bool _) h
    simp only [hc, hk3, bytesV_get l kk hkl, xor_u8, List.length_map, hll, Nat.mul_one, bytes_put l kk _ hkl, go_sem, Nat.reduceLeDiff, Nat.reduceAdd, Nat.reduceSub, Nat.reduceMul, Nat.reduceLT, Int.reduceLT, Int.reduceLE, Int.reduceAdd, Int.reduceSub, Int.reduceMul, Int.reduceToNat, Int.reduceNeg, Int.reduceEq, Nat.reducePow, Int.reducePow, Nat.reduceEqDiff, decide_true, decide_false, reduceIte, reduceCtorEq, Int.reduceBEq, Int.reduceBNe, bne_self_eq_false, Int.cast_ofNat_Int, Bool.not_true, Bool.not_false, IntKind.bits]
    have hb2s : ab2s (hp H [.row 46 0 [.int .i64 n, .str (B d)], .row 46 0 [.int .i64 n, .str (B d)], .row 5 0 ((l.set kk (l[kk] ^^^ u)).map byteV)]) (.wr (H.next + 2) 0 0 (16 + d.length) 1) = some (.str (B (l.set kk (l[kk] ^^^ u)))) := by
      have := b2s_wr H [.row 46 0 [.int .i64 n, .str (B d)], .row 46 0 [.int .i64 n, .str (B d)], .row 5 0 ((l.set kk (l[kk] ^^^ u)).map byteV)] 5 2 0 (l.set kk (l[kk] ^^^ u)) rfl
      rw [List.length_set, hll] at this
      exact this
    obtain ⟨e, he, hre⟩ := hfl kk (l[kk] ^^^ u) l[kk] (List.getElem?_eq_getElem hkl) hxor (by simp at h9; omega)
    simp only [hb2s, go_sem, Nat.reduceLeDiff, Nat.reduceAdd, Nat.reduceSub, Nat.reduceMul, Nat.reduceLT, Int.reduceLT, Int.reduceLE, Int.reduceAdd, Int.reduceSub, Int.reduceMul, Int.reduceToNat, Int.reduceNeg, Int.reduceEq, Nat.reducePow, Int.reducePow, Nat.reduceEqDiff, decide_true, decide_false, reduceIte, reduceCtorEq, Int.reduceBEq, Int.reduceBNe, bne_self_eq_false, Int.cast_ofNat_Int, Bool.not_true, Bool.not_false, IntKind.bits]
    refine read_a (by rw [List.length_set]; omega) ?_
    have hene : (e != 0) = true := by simpa using he
    simp only [hre, recV, hene, go_sem, Nat.reduceLeDiff, Nat.reduceAdd, Nat.reduceSub, Nat.reduceMul, Nat.reduceLT, Int.reduceLT, Int.reduceLE, Int.reduceAdd, Int.reduceSub, Int.reduceMul, Int.reduceToNat, Int.reduceNeg, Int.reduceEq, Nat.reducePow, Int.reducePow, Nat.reduceEqDiff, decide_true, decide_false, reduceIte, reduceCtorEq, Int.reduceBEq, Int.reduceBNe, bne_self_eq_false, Int.cast_ofNat_Int, Bool.not_true, Bool.not_false, IntKind.bits]
    refine awake20_a ?_
    simp only [go_sem, Nat.reduceLeDiff, Nat.reduceAdd, Nat.reduceSub, Nat.reduceMul, Nat.reduceLT, Int.reduceLT, Int.reduceLE, Int.reduceAdd, Int.reduceSub, Int.reduceMul, Int.reduceToNat, Int.reduceNeg, Int.reduceEq, Nat.reducePow, Int.reducePow, Nat.reduceEqDiff, decide_true, decide_false, reduceIte, reduceCtorEq, Int.reduceBEq, Int.reduceBNe, bne_self_eq_false, Int.cast_ofNat_Int, Bool.not_true, Bool.not_false, IntKind.bits]
    exact aret_plain hs (.bool _) h
  · simp only [h8, go_sem, Nat.reduceLeDiff, Nat.reduceAdd, Nat.reduceSub, Nat.reduceMul, Nat.reduceLT, Int.reduceLT, Int.reduceLE, Int.reduceAdd, Int.reduceSub, Int.reduceMul, Int.reduceToNat, Int.reduceNeg, Int.reduceEq, Nat.reducePow, Int.reducePow, Nat.reduceEqDiff, decide_true, decide_false, reduceIte, reduceCtorEq, Int.reduceBEq, Int.reduceBNe, bne_self_eq_false, Int.cast_ofNat_Int, Bool.not_true, Bool.not_false, IntKind.bits]
    simp only [hc, hk3, bytesV_get l kk hkl, xor_u8, List.length_map, hll, Nat.mul_one, bytes_put l kk _ hkl, go_sem, Nat.reduceLeDiff, Nat.reduceAdd, Nat.reduceSub, Nat.reduceMul, Nat.reduceLT, Int.reduceLT, Int.reduceLE, Int.reduceAdd, Int.reduceSub, Int.reduceMul, Int.reduceToNat, Int.reduceNeg, Int.reduceEq, Nat.reducePow, Int.reducePow, Nat.reduceEqDiff, decide_true, decide_false, reduceIte, reduceCtorEq, Int.reduceBEq, Int.reduceBNe, bne_self_eq_false, Int.cast_ofNat_Int, Bool.not_true, Bool.not_false, IntKind.bits]
    have hb2s : ab2s (hp H [.row 46 0 [.int .i64 n, .str (B d)], .row 46 0 [.int .i64 n, .str (B d)], .row 5 0 ((l.set kk (l[kk] ^^^ u)).map byteV)]) (.wr (H.next + 2) 0 0 (16 + d.length) 1) = some (.str (B (l.set kk (l[kk] ^^^ u)))) := by
      have := b2s_wr H [.row 46 0 [.int .i64 n, .str (B d)], .row 46 0 [.int .i64 n, .str (B d)], .row 5 0 ((l.set kk (l[kk] ^^^ u)).map byteV)] 5 2 0 (l.set kk (l[kk] ^^^ u)) rfl
      rw [List.length_set, hll] at this
      exact this
    obtain ⟨e, he, hre⟩ := hfl kk (l[kk] ^^^ u) l[kk] (List.getElem?_eq_getElem hkl) hxor (by simp at h8; omega)
    simp only [hb2s, go_sem, Nat.reduceLeDiff, Nat.reduceAdd, Nat.reduceSub, Nat.reduceMul, Nat.reduceLT, Int.reduceLT, Int.reduceLE, Int.reduceAdd, Int.reduceSub, Int.reduceMul, Int.reduceToNat, Int.reduceNeg, Int.reduceEq, Nat.reducePow, Int.reducePow, Nat.reduceEqDiff, decide_true, decide_false, reduceIte, reduceCtorEq, Int.reduceBEq, Int.reduceBNe, bne_self_eq_false, Int.cast_ofNat_Int, Bool.not_true, Bool.not_false, IntKind.bits]
    refine read_a (by rw [List.length_set]; omega) ?_
    have hene : (e != 0) = true := by simpa using he
    simp only [hre, recV, hene, go_sem, Nat.reduceLeDiff, Nat.reduceAdd, Nat.reduceSub, Nat.reduceMul, Nat.reduceLT, Int.reduceLT, Int.reduceLE, Int.reduceAdd, Int.reduceSub, Int.reduceMul, Int.reduceToNat, Int.reduceNeg, Int.reduceEq, Nat.reducePow, Int.reducePow, Nat.reduceEqDiff, decide_true, decide_false, reduceIte, reduceCtorEq, Int.reduceBEq, Int.reduceBNe, bne_self_eq_false, Int.cast_ofNat_Int, Bool.not_true, Bool.not_false, IntKind.bits]
    refine awake20_a ?_
    simp only [go_sem, Nat.reduceLeDiff, Nat.reduceAdd, Nat.reduceSub, Nat.reduceMul, Nat.reduceLT, Int.reduceLT, Int.reduceLE, Int.reduceAdd, Int.reduceSub, Int.reduceMul, Int.reduceToNat, Int.reduceNeg, Int.reduceEq, Nat.reducePow, Int.reducePow, Nat.reduceEqDiff, decide_true, decide_false, reduceIte, reduceCtorEq, Int.reduceBEq, Int.reduceBNe, bne_self_eq_false, Int.cast_ofNat_Int, Bool.not_true, Bool.not_false, IntKind.bits]
    exact aret_plain hs (.bool _) h
def YRec (zs : List AV) : Prop := ∃ ys ys2 : List AV, zs = ys ++ ys2 ∧ (∃ n, (Lit.int .i64 n).wf = true ∧ ys = [.int .i64 n]) ∧ ∃ s : ByteArray, s.size ≤ 9223372036854775807 ∧ ys2 = [.str s]
theorem openRec : Opens Try.prog 46 YRec :=
  opens_struct (sz := 1 + 1) Try.underlying46 (by kernel_rfl) (fun n => fields_cons rfl (by kernel_rfl) (opens_int Try.underlying3 n) (fields_one rfl (by kernel_rfl) (opens_str Try.underlying9 n)))
theorem law_RecordBack (ys : List AV) (a1 : ByteArray) (a2 : Int) (hy : YRec ys) (w2 : (Lit.int .u32 a2).wf = true) : (ACalls Try.prog) 9 [.agg ys, .str a1, .int .u32 a2] H0 (fun y _ => y = .bool true) := by
  obtain ⟨y1, y2, rfl, ⟨n, _, rfl⟩, s, _, rfl⟩ := hy
  have hm : 0 ≤ a2 ∧ a2 < 4294967296 := by
    simp [Lit.wf, IntKind.min, IntKind.max, IntKind.bits, IntKind.signed] at w2
    omega
  rw [← B_of a1, ← B_of s]
  exact recordBack_a hm.1 hm.2 rfl
end Go.Proofs.Ythpgppamdejjhaa.AL
