/- Packages num and postilionref01 told: numbers of four bytes. -/
import Derived.Test.YtfiihgaohihppaaDoorQConfBackALA4
import Derived.Test.YtfiihgaohihppaaDoorQConfBackALDNum
set_option linter.unusedSimpArgs false
set_option linter.unusedVariables false
set_option maxRecDepth 100000
namespace Go.Proofs.YtfiihgaohihppaaDoor.AL
open Go Go.Proofs
attribute [local go_sem] go_seq go_skip go_region go_regionN go_fregion rgF_some go_cond go_block go_exit go_ret nxt_nil nxt_code nxt_blk nxt_cut leave_nil leave_code leave_cut leave_blk rtn_nil rtn_code rtn_blk rtn_cut cnd_t cnd_f rgn_nil rgY_some rgY_none rgH_some rgP_some retTo_is rgV_func grd_und grd_tt grd_ff grd_tf grd_ft rgn_q rgn_alloc rgn_box rgn_store rgn_lit rgn_litw litCells_nil litCells_cons rgn_app rgn_copy rgn_mk rgn_s2b rgn_call rgn_callv rgn_stop rgn_slice3 aslice3 rgn_slice3l aslice3l rgn_appz rgn_clear acap rgn_put rgn_mkmap rgn_lookup rgn_mapup alookup_nilm alookup_map amapup_map afound_ok afound_no rgn_c rgn_cv qclV_func aloadr rgn_guard post_ret post_normal retY_some ares aresL ares1 AX.ev aput List.getD_cons_zero List.getD_cons_succ List.set_cons_zero List.set_cons_succ List.map_cons List.map_nil aq abin aint astr abeq aconv asame aextract alenS alenL_nils alenL_emp alenL_imm alenL_wr alenL_wc aun apart aload afieldAddr afield aidxSl_wr aidxSl_wc aidxSl_imm aidxPt aidxStr aidxArr abound asliceStr asliceSl asliceArr abest anonil afill astore acells_nils acells_emp acells_imm acells_wr acells_wc acells_str acopy litAll amk as2b anil nilOf aseq aeqs aeqv fits fit1 hp_next hp_push hp_get hp_set List.length_cons List.length_nil List.getElem?_cons_zero List.getElem?_cons_succ List.cons_append List.nil_append List.append_nil List.take_succ_cons List.take_zero List.drop_succ_cons List.drop_zero List.all_cons List.all_nil Option.map_some Option.some.injEq Bool.and_true Bool.true_and Bool.false_eq_true if_true if_false ite_true ite_false Bool.and_self true_and and_true and_self Nat.zero_add Nat.le_refl Int.toNat_natCast beq_self_eq_true eq_self tops_zero tops_succ Int.natCast_nonneg List.take_nil List.drop_nil Option.map_none flat_bool one_bool cells_bool flat_int one_int cells_int flat_str one_str cells_str flat_nilp one_nilp cells_nilp flat_ptr one_ptr cells_ptr flat_nils one_nils cells_nils flat_imm one_imm cells_imm flat_wr one_wr cells_wr flat_wc one_wc cells_wc flat_func one_func cells_func flat_nilf one_nilf cells_nilf flat_map one_map cells_map flat_nilm one_nilm cells_nilm flat_iface one_iface cells_iface flat_nili one_nili cells_nili flat_rd one_rd cells_rd flat_emp one_emp cells_emp flat_byteV one_byteV cells_byteV flat_agg cells_agg one_agg B_size B_list B_ext B_toList B_app List.take_length Int.le_refl
theorem take_more {l : List UInt8} {i : Nat} (hi : i < l.length) : l.take (i + 1) = l.take i ++ [l[i]] := List.take_succ_eq_append_getElem hi
/-- What FromBig answers. -/
def fromBig (l : List UInt8) : AV := if l.length < 4 then .tup [.int .i64 0, .bool false] else .tup [.int .i64 (big (l.take 4) : Int), .bool true]
theorem under_nb (n : Nat) (a : Int) (b : Bool) : (AV.tup [.int .i64 a, .bool b]).under n := .tup _ (fun c hc => by
  simp only [List.mem_cons, List.not_mem_nil, or_false] at hc
  rcases hc with rfl | rfl
  · exact .int _ _
  · exact .bool _)
theorem fromBig_a {l : List UInt8} {H : AHeap} {K : AV → AHeap → Prop} (h : K (fromBig l) H) : (ACalls Tryd.prog) 105 [.str (B l)] H K := by
  refine acalls_go mo t105 (fun hs hu => ?_)
  simp only [c105, B_size, go_sem, Nat.reduceLeDiff, Nat.reduceAdd, Nat.reduceSub, Nat.reduceMul, Nat.reduceLT, Int.reduceLT, Int.reduceLE, Int.reduceAdd, Int.reduceSub, Int.reduceMul, Int.reduceToNat, Int.reduceNeg, Int.reduceEq, Nat.reducePow, Int.reducePow, Nat.reduceEqDiff, decide_true, decide_false, reduceIte, reduceCtorEq, Int.reduceBEq, Int.reduceBNe, bne_self_eq_false, Int.cast_ofNat_Int, Bool.not_true, Bool.not_false, IntKind.bits]
  refine cnd_split (fun h1 => ?_) (fun h1 => ?_)
  · have h2 : l.length < 4 := by simp at h1; omega
    simp only [go_sem, Nat.reduceLeDiff, Nat.reduceAdd, Nat.reduceSub, Nat.reduceMul, Nat.reduceLT, Int.reduceLT, Int.reduceLE, Int.reduceAdd, Int.reduceSub, Int.reduceMul, Int.reduceToNat, Int.reduceNeg, Int.reduceEq, Nat.reducePow, Int.reducePow, Nat.reduceEqDiff, decide_true, decide_false, reduceIte, reduceCtorEq, Int.reduceBEq, Int.reduceBNe, bne_self_eq_false, Int.cast_ofNat_Int, Bool.not_true, Bool.not_false, IntKind.bits]
    rw [fromBig, if_pos h2] at h
    exact aret_plain hs (under_nb _ _ _) h
  · have h2 : 4 ≤ l.length := by simp at h1; omega
    have h3 : (4 : Int) ≤ (l.length : Int) := by omega
    have h4 : min 4 l.length = 4 := by omega
    have h5 : (4 : Nat) ≤ 9223372036854775807 := by decide
    simp only [h3, B_ext, B_size, B_list, List.length_take, h4, h5, go_sem, Nat.reduceLeDiff, Nat.reduceAdd, Nat.reduceSub, Nat.reduceMul, Nat.reduceLT, Int.reduceLT, Int.reduceLE, Int.reduceAdd, Int.reduceSub, Int.reduceMul, Int.reduceToNat, Int.reduceNeg, Int.reduceEq, Nat.reducePow, Int.reducePow, Nat.reduceEqDiff, decide_true, decide_false, reduceIte, reduceCtorEq, Int.reduceBEq, Int.reduceBNe, bne_self_eq_false, Int.cast_ofNat_Int, Bool.not_true, Bool.not_false, IntKind.bits]
    rw [fromBig, if_neg (by omega)] at h
    refine go_loop mono (σ := Nat) (fun i => [.str (B l), .top, .int .i64 0, .bool false, .int .i64 (big ((l.take 4).take i) : Int), .top, .top, .top, .top, .top, .top, .top, .wr (H.next + 0) 0 0 4 1, .int .i64 4, .int .i64 (i : Int), .top, .top, .top, .top, .top, .top, .top, .top, .top, .top])
      (fun _ => hp H [.row 5 0 ((l.take 4).map byteV)]) (fun i => i ≤ 4) (fun i => 4 - i) 0 ?_ rfl (Nat.zero_le _) (fun i hi J hJ => ?_)
    · simp only [List.take_zero]
      repeat first | exact forget_nil | apply forget_keep | apply forget_top
    simp only [go_sem, Nat.reduceLeDiff, Nat.reduceAdd, Nat.reduceSub, Nat.reduceMul, Nat.reduceLT, Int.reduceLT, Int.reduceLE, Int.reduceAdd, Int.reduceSub, Int.reduceMul, Int.reduceToNat, Int.reduceNeg, Int.reduceEq, Nat.reducePow, Int.reducePow, Nat.reduceEqDiff, decide_true, decide_false, reduceIte, reduceCtorEq, Int.reduceBEq, Int.reduceBNe, bne_self_eq_false, Int.cast_ofNat_Int, Bool.not_true, Bool.not_false, IntKind.bits]
    refine cnd_split (fun h6 => ?_) (fun h6 => ?_)
    · have hi' : i < 4 := by simp at h6; omega
      have hl : i < (l.take 4).length := by simp; omega
      have hc : ((i : Int) < 4) = True := by simp; omega
      have hb := big_lt i ((l.take 4).take i) (by simp; omega)
      have hb2 : 256 ^ i ≤ 256 ^ 3 := Nat.pow_le_pow_right (by decide) (by omega)
      have hw : IntKind.wrap .i64 ((l.take 4)[i].toNat : Int) = ((l.take 4)[i].toNat : Int) := wi64 (by omega) (by have := (l.take 4)[i].toNat_lt; omega)
      simp (disch := omega) only [hc, bytesV_get _ i hl, Nat.mul_one, hw, shl_i64, wi64, or_byte, wnext hi', go_sem, Nat.reduceLeDiff, Nat.reduceAdd, Nat.reduceSub, Nat.reduceMul, Nat.reduceLT, Int.reduceLT, Int.reduceLE, Int.reduceAdd, Int.reduceSub, Int.reduceMul, Int.reduceToNat, Int.reduceNeg, Int.reduceEq, Nat.reducePow, Int.reducePow, Nat.reduceEqDiff, decide_true, decide_false, reduceIte, reduceCtorEq, Int.reduceBEq, Int.reduceBNe, bne_self_eq_false, Int.cast_ofNat_Int, Bool.not_true, Bool.not_false, IntKind.bits]
      refine hJ (i + 1) _ (by omega) (by omega) ?_
      rw [take_more hl, big_snoc]
      repeat first | exact forget_nil | apply forget_keep | apply forget_top
    · have hi' : i = 4 := by simp at h6; omega
      subst hi'
      simp only [List.take_take, Nat.min_self, go_sem, Nat.reduceLeDiff, Nat.reduceAdd, Nat.reduceSub, Nat.reduceMul, Nat.reduceLT, Int.reduceLT, Int.reduceLE, Int.reduceAdd, Int.reduceSub, Int.reduceMul, Int.reduceToNat, Int.reduceNeg, Int.reduceEq, Nat.reducePow, Int.reducePow, Nat.reduceEqDiff, decide_true, decide_false, reduceIte, reduceCtorEq, Int.reduceBEq, Int.reduceBNe, bne_self_eq_false, Int.cast_ofNat_Int, Bool.not_true, Bool.not_false, IntKind.bits]
      exact aret_plain hs (under_nb _ _ _) h
theorem four_get {l : List UInt8} (h : 4 ≤ l.length) : big (l.take 4) = l[0].toNat * 16777216 + l[1].toNat * 65536 + l[2].toNat * 256 + l[3].toNat := by
  match l, h with
  | a :: b :: c :: d :: r, _ => simp [big]; omega
/-- The four bytes of a number. -/
def four (n : Int) : List UInt8 := [b8 (n / 16777216), b8 (n / 65536), b8 (n / 256), b8 n]
def fours (l : List Int) : List UInt8 := l.flatMap four
theorem fours_snoc (l : List Int) (n : Int) : fours (l ++ [n]) = fours l ++ four n := by simp [fours]
theorem fours_len : ∀ l : List Int, (fours l).length = l.length * 4
  | [] => rfl
  | n :: l => by
    rw [fours, List.flatMap_cons, List.length_append, ← fours, fours_len l, List.length_cons, four]
    simp only [List.length_cons, List.length_nil]
    omega
theorem bigs_a {l : List Int} {H : AHeap} {K : AV → AHeap → Prop} (hl : l.length ≤ 100000) (h : K (.str (B (fours l))) H) : (ACalls Tryd.prog) 110 [.imm 1 (l.map (.int .i64))] H K := by
  refine acalls_go mo t110 (fun hs hu => ?_)
  simp only [c110, List.length_map, go_sem, Nat.reduceLeDiff, Nat.reduceAdd, Nat.reduceSub, Nat.reduceMul, Nat.reduceLT, Int.reduceLT, Int.reduceLE, Int.reduceAdd, Int.reduceSub, Int.reduceMul, Int.reduceToNat, Int.reduceNeg, Int.reduceEq, Nat.reducePow, Int.reducePow, Nat.reduceEqDiff, decide_true, decide_false, reduceIte, reduceCtorEq, Int.reduceBEq, Int.reduceBNe, bne_self_eq_false, Int.cast_ofNat_Int, Bool.not_true, Bool.not_false, IntKind.bits]
  refine go_loop mono (σ := Nat) (fun i => [.imm 1 (l.map (.int .i64)), .top, .str (B []), slv (H.next + 0) 4 1 i, .top, .top, .imm 1 (l.map (.int .i64)), .int .i64 (l.length : Int), .int .i64 (i : Int), .top, .top, .top, .top, .top, .top, .top, .top, .top, .top, .top, .top, .top, .top, .top, .top, .top, .top, .top, .top])
      (fun i => hp H (slh 5 i ((fours (l.take i)).map byteV))) (fun i => i ≤ l.length) (fun i => l.length - i) 0 ?_ rfl (by simp) (fun i hi J hJ => ?_)
  · simp only [slv]
    repeat first | exact forget_nil | apply forget_keep | apply forget_top
  simp only [go_sem, Nat.reduceLeDiff, Nat.reduceAdd, Nat.reduceSub, Nat.reduceMul, Nat.reduceLT, Int.reduceLT, Int.reduceLE, Int.reduceAdd, Int.reduceSub, Int.reduceMul, Int.reduceToNat, Int.reduceNeg, Int.reduceEq, Nat.reducePow, Int.reducePow, Nat.reduceEqDiff, decide_true, decide_false, reduceIte, reduceCtorEq, Int.reduceBEq, Int.reduceBNe, bne_self_eq_false, Int.cast_ofNat_Int, Bool.not_true, Bool.not_false, IntKind.bits]
  refine cnd_split (fun h1 => ?_) (fun h1 => ?_)
  · have hi' : i < l.length := by simpa using h1
    have hx : (l.map (AV.int .i64))[i]? = some (.int .i64 l[i]) := by rw [List.getElem?_map, List.getElem?_eq_getElem hi']; rfl
    simp (disch := omega) only [hx, shr_i64, byte_wrap, go_sem, Nat.reduceLeDiff, Nat.reduceAdd, Nat.reduceSub, Nat.reduceMul, Nat.reduceLT, Int.reduceLT, Int.reduceLE, Int.reduceAdd, Int.reduceSub, Int.reduceMul, Int.reduceToNat, Int.reduceNeg, Int.reduceEq, Nat.reducePow, Int.reducePow, Nat.reduceEqDiff, decide_true, decide_false, reduceIte, reduceCtorEq, Int.reduceBEq, Int.reduceBNe, bne_self_eq_false, Int.cast_ofNat_Int, Bool.not_true, Bool.not_false, IntKind.bits]
    have hlen : (fours (l.take i)).length = i * 4 := by rw [fours_len, List.length_take]; omega
    have h4 : [byteV (b8 (l[i] / 16777216)), byteV (b8 (l[i] / 65536)), byteV (b8 (l[i] / 256)), byteV (b8 l[i])] = (four l[i]).map byteV := rfl
    rw [h4, aapp_slv0 (m := 4) (k := i) (b := 1) (cs := (fours (l.take i)).map byteV) (xs := (four l[i]).map byteV) (by rw [List.length_map, hlen]; omega) (by simp [cells_byteV]) rfl (by decide) (by simp [cells_byteV, one_byteV]) (by omega)]
    simp only [wnext hi' (by omega : l.length ≤ 9223372036854775807), go_sem, Nat.reduceLeDiff, Nat.reduceAdd, Nat.reduceSub, Nat.reduceMul, Nat.reduceLT, Int.reduceLT, Int.reduceLE, Int.reduceAdd, Int.reduceSub, Int.reduceMul, Int.reduceToNat, Int.reduceNeg, Int.reduceEq, Nat.reducePow, Int.reducePow, Nat.reduceEqDiff, decide_true, decide_false, reduceIte, reduceCtorEq, Int.reduceBEq, Int.reduceBNe, bne_self_eq_false, Int.cast_ofNat_Int, Bool.not_true, Bool.not_false, IntKind.bits]
    have hh : (fours (l.take i)).map byteV ++ ((four l[i]).map byteV).flatMap AV.cells = (fours (l.take (i + 1))).map byteV := by
      rw [List.take_succ_eq_append_getElem hi', fours_snoc, List.map_append, bytes_flat]
    rw [hh]
    refine hJ (i + 1) _ (by omega) (by omega) ?_
    repeat first | exact forget_nil | apply forget_keep | apply forget_top
  · have hi' : i = l.length := by simp at h1; omega
    subst hi'
    rw [List.take_of_length_le (Nat.le_refl _)]
    simp only [b2s_slv (by rw [fours_len] : (fours l).length = l.length * 4), go_sem, Nat.reduceLeDiff, Nat.reduceAdd, Nat.reduceSub, Nat.reduceMul, Nat.reduceLT, Int.reduceLT, Int.reduceLE, Int.reduceAdd, Int.reduceSub, Int.reduceMul, Int.reduceToNat, Int.reduceNeg, Int.reduceEq, Nat.reducePow, Int.reducePow, Nat.reduceEqDiff, decide_true, decide_false, reduceIte, reduceCtorEq, Int.reduceBEq, Int.reduceBNe, bne_self_eq_false, Int.cast_ofNat_Int, Bool.not_true, Bool.not_false, IntKind.bits]
    exact aret_plain hs (.str _) h
end Go.Proofs.YtfiihgaohihppaaDoor.AL

