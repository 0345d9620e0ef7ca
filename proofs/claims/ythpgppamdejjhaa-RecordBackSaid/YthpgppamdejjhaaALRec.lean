/- Package record and its reference told. -/
import Derived.Test.YthpgppamdejjhaaALDRec
import Derived.Test.YthpgppamdejjhaaALNum
import Derived.Test.YthpgppamdejjhaaALCrc
set_option linter.unusedSimpArgs false
set_option linter.unusedVariables false
set_option maxRecDepth 100000
namespace Go.Proofs.Ythpgppamdejjhaa.AL
open Go Go.Proofs Go.Proofs.Ythpgppamdejjhaa.G
attribute [local go_sem] go_seq go_skip go_region go_cond go_block go_exit go_ret nxt_nil nxt_code nxt_blk nxt_cut leave_nil leave_code leave_cut leave_blk rtn_nil rtn_code rtn_blk rtn_cut cnd_t cnd_f rgn_nil rgY_some rgY_none rgH_some rgP_some retTo_is rgV_func grd_und grd_tt grd_ff grd_tf grd_ft rgn_q rgn_alloc rgn_box rgn_store rgn_lit rgn_app rgn_copy rgn_mk rgn_s2b rgn_call rgn_callv rgn_c rgn_guard post_ret post_normal retY_some ares aresL ares1 AX.ev aput List.getD_cons_zero List.getD_cons_succ List.set_cons_zero List.set_cons_succ List.map_cons List.map_nil aq abin aint astr abeq aconv asame aextract alenS alenL aun apart aload afieldAddr afield aidxSl aidxPt aidxStr aidxArr alen abound asliceStr asliceSl abest anonil afill astore acells acopy litAll amk as2b anil nilOf aseq aeqs aeqv fits fit1 hp_next hp_push hp_get hp_set List.length_cons List.length_nil List.getElem?_cons_zero List.getElem?_cons_succ List.cons_append List.nil_append List.append_nil List.take_succ_cons List.take_zero List.drop_succ_cons List.drop_zero List.all_cons List.all_nil Option.map_some Option.some.injEq Bool.and_true Bool.true_and Bool.false_eq_true if_true if_false ite_true ite_false Bool.and_self true_and and_true and_self Nat.zero_add Nat.le_refl Int.toNat_natCast beq_self_eq_true eq_self tops_zero tops_succ Int.natCast_nonneg List.take_nil List.drop_nil Option.map_none flat_bool one_bool cells_bool flat_int one_int cells_int flat_str one_str cells_str flat_nilp one_nilp cells_nilp flat_ptr one_ptr cells_ptr flat_nils one_nils cells_nils flat_imm one_imm cells_imm flat_wr one_wr cells_wr flat_func one_func cells_func flat_nilf one_nilf cells_nilf flat_map one_map cells_map flat_nilm one_nilm cells_nilm flat_iface one_iface cells_iface flat_nili one_nili cells_nili flat_rd one_rd cells_rd flat_emp one_emp cells_emp flat_byteV one_byteV cells_byteV flat_agg cells_agg one_agg B_size B_list B_ext B_toList B_app List.take_length Int.le_refl
theorem under_sb {n : Nat} (s : ByteArray) (b : Bool) : (AV.tup [.str s, .bool b]).under n := under_tb b (.str s)
theorem hasPrefix_a {l m : List UInt8} {H : AHeap} {K : AV → AHeap → Prop} (h : K (.bool (l.take m.length == m)) H) : (ACalls Try.prog) 81 [.str (B l), .str (B m)] H K := by
  refine acalls_go mo t81 (fun hs hu => ?_)
  simp only [c81, B_size, go_sem, Nat.reduceLeDiff, Nat.reduceAdd, Nat.reduceSub, Nat.reduceMul, Nat.reduceLT, Int.reduceLT, Int.reduceLE, Int.reduceAdd, Int.reduceSub, Int.reduceMul, Int.reduceToNat, Int.reduceNeg, Int.reduceEq, Nat.reducePow, Int.reducePow, Nat.reduceEqDiff, decide_true, decide_false, reduceIte, reduceCtorEq, Int.reduceBEq, Int.reduceBNe, bne_self_eq_false, Int.cast_ofNat_Int, Bool.not_true, Bool.not_false, IntKind.bits]
  refine grd_split (fun h1 => ?_) (fun h1 => ?_)
  · have h2 : m.length ≤ l.length := by simp at h1; omega
    have h3 : ((m.length : Int) ≤ (l.length : Int)) = True := by simp; omega
    simp only [h3, B_ext, B_size, B_toList, Int.le_refl, go_sem, Nat.reduceLeDiff, Nat.reduceAdd, Nat.reduceSub, Nat.reduceMul, Nat.reduceLT, Int.reduceLT, Int.reduceLE, Int.reduceAdd, Int.reduceSub, Int.reduceMul, Int.reduceToNat, Int.reduceNeg, Int.reduceEq, Nat.reducePow, Int.reducePow, Nat.reduceEqDiff, decide_true, decide_false, reduceIte, reduceCtorEq, Int.reduceBEq, Int.reduceBNe, bne_self_eq_false, Int.cast_ofNat_Int, Bool.not_true, Bool.not_false, IntKind.bits]
    exact aret_plain hs (.bool _) h
  · have h2 : l.length < m.length := by simp at h1; omega
    have h3 : ((m.length : Int) ≤ (l.length : Int)) = False := by simp; omega
    simp only [h3, go_sem, Nat.reduceLeDiff, Nat.reduceAdd, Nat.reduceSub, Nat.reduceMul, Nat.reduceLT, Int.reduceLT, Int.reduceLE, Int.reduceAdd, Int.reduceSub, Int.reduceMul, Int.reduceToNat, Int.reduceNeg, Int.reduceEq, Nat.reducePow, Int.reducePow, Nat.reduceEqDiff, decide_true, decide_false, reduceIte, reduceCtorEq, Int.reduceBEq, Int.reduceBNe, bne_self_eq_false, Int.cast_ofNat_Int, Bool.not_true, Bool.not_false, IntKind.bits]
    refine aret_plain hs (.bool _) ?_
    have h4 : (l.take m.length == m) = false := by
      rw [List.take_of_length_le (by omega)]
      apply beq_eq_false_iff_ne.2
      rintro rfl
      omega
    rw [h4] at h
    exact h
def cutP (l m : List UInt8) : AV := if l.take m.length = m then .tup [.str (B (l.drop m.length)), .bool true] else .tup [.str (B l), .bool false]
theorem lcut_a {l m : List UInt8} {H : AHeap} {K : AV → AHeap → Prop} (h : K (cutP l m) H) : (ACalls Try.prog) 77 [.str (B l), .str (B m)] H K := by
  refine acalls_go mo t77 (fun hs hu => ?_)
  simp only [c77, go_sem, Nat.reduceLeDiff, Nat.reduceAdd, Nat.reduceSub, Nat.reduceMul, Nat.reduceLT, Int.reduceLT, Int.reduceLE, Int.reduceAdd, Int.reduceSub, Int.reduceMul, Int.reduceToNat, Int.reduceNeg, Int.reduceEq, Nat.reducePow, Int.reducePow, Nat.reduceEqDiff, decide_true, decide_false, reduceIte, reduceCtorEq, Int.reduceBEq, Int.reduceBNe, bne_self_eq_false, Int.cast_ofNat_Int, Bool.not_true, Bool.not_false, IntKind.bits]
  refine hasPrefix_a ?_
  simp only [go_sem, Nat.reduceLeDiff, Nat.reduceAdd, Nat.reduceSub, Nat.reduceMul, Nat.reduceLT, Int.reduceLT, Int.reduceLE, Int.reduceAdd, Int.reduceSub, Int.reduceMul, Int.reduceToNat, Int.reduceNeg, Int.reduceEq, Nat.reducePow, Int.reducePow, Nat.reduceEqDiff, decide_true, decide_false, reduceIte, reduceCtorEq, Int.reduceBEq, Int.reduceBNe, bne_self_eq_false, Int.cast_ofNat_Int, Bool.not_true, Bool.not_false, IntKind.bits]
  refine cnd_split (fun h1 => ?_) (fun h1 => ?_)
  · have h2 : ¬ l.take m.length = m := by simpa using h1
    simp only [go_sem, Nat.reduceLeDiff, Nat.reduceAdd, Nat.reduceSub, Nat.reduceMul, Nat.reduceLT, Int.reduceLT, Int.reduceLE, Int.reduceAdd, Int.reduceSub, Int.reduceMul, Int.reduceToNat, Int.reduceNeg, Int.reduceEq, Nat.reducePow, Int.reducePow, Nat.reduceEqDiff, decide_true, decide_false, reduceIte, reduceCtorEq, Int.reduceBEq, Int.reduceBNe, bne_self_eq_false, Int.cast_ofNat_Int, Bool.not_true, Bool.not_false, IntKind.bits]
    rw [cutP, if_neg h2] at h
    exact aret_plain hs (under_sb _ _) h
  · have h2 : l.take m.length = m := by simpa using h1
    have h3 : m.length ≤ l.length := by have := congrArg List.length h2; simp at this; omega
    have h4 : (m.length : Int) ≤ (l.length : Int) := by omega
    simp only [h4, B_ext, B_size, List.take_length, Int.le_refl, go_sem, Nat.reduceLeDiff, Nat.reduceAdd, Nat.reduceSub, Nat.reduceMul, Nat.reduceLT, Int.reduceLT, Int.reduceLE, Int.reduceAdd, Int.reduceSub, Int.reduceMul, Int.reduceToNat, Int.reduceNeg, Int.reduceEq, Nat.reducePow, Int.reducePow, Nat.reduceEqDiff, decide_true, decide_false, reduceIte, reduceCtorEq, Int.reduceBEq, Int.reduceBNe, bne_self_eq_false, Int.cast_ofNat_Int, Bool.not_true, Bool.not_false, IntKind.bits]
    rw [cutP, if_pos h2] at h
    exact aret_plain hs (under_sb _ _) h
theorem cut_a {l m : List UInt8} {H : AHeap} {K : AV → AHeap → Prop} (h : K (cutP l m) H) : (ACalls Try.prog) 66 [.str (B l), .str (B m)] H K := by
  refine acalls_go mo t66 (fun hs hu => ?_)
  simp only [c66, go_sem, Nat.reduceLeDiff, Nat.reduceAdd, Nat.reduceSub, Nat.reduceMul, Nat.reduceLT, Int.reduceLT, Int.reduceLE, Int.reduceAdd, Int.reduceSub, Int.reduceMul, Int.reduceToNat, Int.reduceNeg, Int.reduceEq, Nat.reducePow, Int.reducePow, Nat.reduceEqDiff, decide_true, decide_false, reduceIte, reduceCtorEq, Int.reduceBEq, Int.reduceBNe, bne_self_eq_false, Int.cast_ofNat_Int, Bool.not_true, Bool.not_false, IntKind.bits]
  refine lcut_a ?_
  unfold cutP at h ⊢
  split
  · rename_i h1
    rw [if_pos h1] at h
    simp only [go_sem, Nat.reduceLeDiff, Nat.reduceAdd, Nat.reduceSub, Nat.reduceMul, Nat.reduceLT, Int.reduceLT, Int.reduceLE, Int.reduceAdd, Int.reduceSub, Int.reduceMul, Int.reduceToNat, Int.reduceNeg, Int.reduceEq, Nat.reducePow, Int.reducePow, Nat.reduceEqDiff, decide_true, decide_false, reduceIte, reduceCtorEq, Int.reduceBEq, Int.reduceBNe, bne_self_eq_false, Int.cast_ofNat_Int, Bool.not_true, Bool.not_false, IntKind.bits]
    exact aret_plain hs (under_sb _ _) h
  · rename_i h1
    rw [if_neg h1] at h
    simp only [go_sem, Nat.reduceLeDiff, Nat.reduceAdd, Nat.reduceSub, Nat.reduceMul, Nat.reduceLT, Int.reduceLT, Int.reduceLE, Int.reduceAdd, Int.reduceSub, Int.reduceMul, Int.reduceToNat, Int.reduceNeg, Int.reduceEq, Nat.reducePow, Int.reducePow, Nat.reduceEqDiff, decide_true, decide_false, reduceIte, reduceCtorEq, Int.reduceBEq, Int.reduceBNe, bne_self_eq_false, Int.cast_ofNat_Int, Bool.not_true, Bool.not_false, IntKind.bits]
    exact aret_plain hs (under_sb _ _) h
def penv : List UInt8 := [80, 69, 78, 86]
/-- The record of a sector: its number, its data, and why not. -/
def recL (l : List UInt8) : Int × List UInt8 × Int :=
  if l.length < 16 then (0, [], 14) else
  if ¬ l.take 4 = penv then (0, [], 6) else
  if 496 < big ((l.drop 8).take 4) then (0, [], 7) else
  if l.length - 16 < big ((l.drop 8).take 4) then (0, [], 14) else
  if ¬ crcOf call ((l.drop 4).take 8 ++ (l.drop 16).take (big ((l.drop 8).take 4))) = (big ((l.drop 12).take 4) : Int) then (0, [], 9) else
  ((big ((l.drop 4).take 4) : Int), (l.drop 16).take (big ((l.drop 8).take 4)), 0)
def recV (x : Int × List UInt8 × Int) : AV := .tup [.agg [.int .i64 x.1, .str (B x.2.1)], .int .i64 x.2.2]
theorem under_rec (n : Nat) (a : Int) (s : ByteArray) (e : Int) : (AV.tup [.agg [.int .i64 a, .str s], .int .i64 e]).under n := .tup _ (fun c hc => by
  simp only [List.mem_cons, List.not_mem_nil, or_false] at hc
  rcases hc with rfl | rfl
  · refine .agg _ (fun c hc => ?_)
    simp only [List.mem_cons, List.not_mem_nil, or_false] at hc
    rcases hc with rfl | rfl
    · exact .int _ _
    · exact .str _
  · exact .int _ _)
theorem rread_a {l : List UInt8} {H : AHeap} {K : AV → AHeap → Prop} (hl : l.length ≤ 100000) (h : K (recV (recL l)) H) : (ACalls Try.prog) 34 [.str (B l)] H K := by
  refine acalls_go mo t34 (fun hs hu => ?_)
  simp only [c34, B_size, go_sem, Nat.reduceLeDiff, Nat.reduceAdd, Nat.reduceSub, Nat.reduceMul, Nat.reduceLT, Int.reduceLT, Int.reduceLE, Int.reduceAdd, Int.reduceSub, Int.reduceMul, Int.reduceToNat, Int.reduceNeg, Int.reduceEq, Nat.reducePow, Int.reducePow, Nat.reduceEqDiff, decide_true, decide_false, reduceIte, reduceCtorEq, Int.reduceBEq, Int.reduceBNe, bne_self_eq_false, Int.cast_ofNat_Int, Bool.not_true, Bool.not_false, IntKind.bits]
  refine cnd_split (fun h1 => ?_) (fun h1 => ?_)
  · have h2 : l.length < 16 := by simp at h1; omega
    simp only [go_sem, Nat.reduceLeDiff, Nat.reduceAdd, Nat.reduceSub, Nat.reduceMul, Nat.reduceLT, Int.reduceLT, Int.reduceLE, Int.reduceAdd, Int.reduceSub, Int.reduceMul, Int.reduceToNat, Int.reduceNeg, Int.reduceEq, Nat.reducePow, Int.reducePow, Nat.reduceEqDiff, decide_true, decide_false, reduceIte, reduceCtorEq, Int.reduceBEq, Int.reduceBNe, bne_self_eq_false, Int.cast_ofNat_Int, Bool.not_true, Bool.not_false, IntKind.bits]
    rw [recL, if_pos h2] at h
    exact aret_plain hs (under_rec _ _ _ _) h
  have h2 : ¬ l.length < 16 := by simp at h1; omega
  have i4 : ((4 : Int) ≤ (l.length : Int)) = True := by simp; omega
  rw [recL, if_neg h2] at h
  simp only [i4, B_ext, B_toList, go_sem, Nat.reduceLeDiff, Nat.reduceAdd, Nat.reduceSub, Nat.reduceMul, Nat.reduceLT, Int.reduceLT, Int.reduceLE, Int.reduceAdd, Int.reduceSub, Int.reduceMul, Int.reduceToNat, Int.reduceNeg, Int.reduceEq, Nat.reducePow, Int.reducePow, Nat.reduceEqDiff, decide_true, decide_false, reduceIte, reduceCtorEq, Int.reduceBEq, Int.reduceBNe, bne_self_eq_false, Int.cast_ofNat_Int, Bool.not_true, Bool.not_false, IntKind.bits]
  refine cnd_split (fun h3 => ?_) (fun h3 => ?_)
  · have h4 : ¬ l.take 4 = penv := by simpa [penv] using h3
    simp only [go_sem, Nat.reduceLeDiff, Nat.reduceAdd, Nat.reduceSub, Nat.reduceMul, Nat.reduceLT, Int.reduceLT, Int.reduceLE, Int.reduceAdd, Int.reduceSub, Int.reduceMul, Int.reduceToNat, Int.reduceNeg, Int.reduceEq, Nat.reducePow, Int.reducePow, Nat.reduceEqDiff, decide_true, decide_false, reduceIte, reduceCtorEq, Int.reduceBEq, Int.reduceBNe, bne_self_eq_false, Int.cast_ofNat_Int, Bool.not_true, Bool.not_false, IntKind.bits]
    rw [if_pos h4] at h
    exact aret_plain hs (under_rec _ _ _ _) h
  have h4 : ¬ ¬ l.take 4 = penv := by simpa [penv] using h3
  rw [if_neg h4] at h
  simp only [i4, B_ext, B_size, List.take_length, Int.le_refl, go_sem, Nat.reduceLeDiff, Nat.reduceAdd, Nat.reduceSub, Nat.reduceMul, Nat.reduceLT, Int.reduceLT, Int.reduceLE, Int.reduceAdd, Int.reduceSub, Int.reduceMul, Int.reduceToNat, Int.reduceNeg, Int.reduceEq, Nat.reducePow, Int.reducePow, Nat.reduceEqDiff, decide_true, decide_false, reduceIte, reduceCtorEq, Int.reduceBEq, Int.reduceBNe, bne_self_eq_false, Int.cast_ofNat_Int, Bool.not_true, Bool.not_false, IntKind.bits]
  refine rfromBig_a ?_
  have d4 : ¬ (l.drop 4).length < 4 := by simp; omega
  have i8 : ((8 : Int) ≤ (l.length : Int)) = True := by simp; omega
  simp only [fromBig, d4, i8, B_ext, B_size, List.take_length, Int.le_refl, go_sem, Nat.reduceLeDiff, Nat.reduceAdd, Nat.reduceSub, Nat.reduceMul, Nat.reduceLT, Int.reduceLT, Int.reduceLE, Int.reduceAdd, Int.reduceSub, Int.reduceMul, Int.reduceToNat, Int.reduceNeg, Int.reduceEq, Nat.reducePow, Int.reducePow, Nat.reduceEqDiff, decide_true, decide_false, reduceIte, reduceCtorEq, Int.reduceBEq, Int.reduceBNe, bne_self_eq_false, Int.cast_ofNat_Int, Bool.not_true, Bool.not_false, IntKind.bits]
  refine rfromBig_a ?_
  have d8 : ¬ (l.drop 8).length < 4 := by simp; omega
  have i12 : ((12 : Int) ≤ (l.length : Int)) = True := by simp; omega
  simp only [fromBig, d8, i12, B_ext, B_size, List.take_length, Int.le_refl, go_sem, Nat.reduceLeDiff, Nat.reduceAdd, Nat.reduceSub, Nat.reduceMul, Nat.reduceLT, Int.reduceLT, Int.reduceLE, Int.reduceAdd, Int.reduceSub, Int.reduceMul, Int.reduceToNat, Int.reduceNeg, Int.reduceEq, Nat.reducePow, Int.reducePow, Nat.reduceEqDiff, decide_true, decide_false, reduceIte, reduceCtorEq, Int.reduceBEq, Int.reduceBNe, bne_self_eq_false, Int.cast_ofNat_Int, Bool.not_true, Bool.not_false, IntKind.bits]
  refine rfromBig_a ?_
  have d12 : ¬ (l.drop 12).length < 4 := by simp; omega
  simp only [fromBig, d12, B_ext, B_size, List.take_length, Int.le_refl, go_sem, Nat.reduceLeDiff, Nat.reduceAdd, Nat.reduceSub, Nat.reduceMul, Nat.reduceLT, Int.reduceLT, Int.reduceLE, Int.reduceAdd, Int.reduceSub, Int.reduceMul, Int.reduceToNat, Int.reduceNeg, Int.reduceEq, Nat.reducePow, Int.reducePow, Nat.reduceEqDiff, decide_true, decide_false, reduceIte, reduceCtorEq, Int.reduceBEq, Int.reduceBNe, bne_self_eq_false, Int.cast_ofNat_Int, Bool.not_true, Bool.not_false, IntKind.bits]
  have hb := big_lt 4 ((l.drop 8).take 4) (by simp; omega)
  generalize hn : big ((l.drop 8).take 4) = n at h hb ⊢
  refine cnd_split (fun h5 => ?_) (fun h5 => ?_)
  · have h6 : 496 < n := by simp at h5; omega
    simp only [go_sem, Nat.reduceLeDiff, Nat.reduceAdd, Nat.reduceSub, Nat.reduceMul, Nat.reduceLT, Int.reduceLT, Int.reduceLE, Int.reduceAdd, Int.reduceSub, Int.reduceMul, Int.reduceToNat, Int.reduceNeg, Int.reduceEq, Nat.reducePow, Int.reducePow, Nat.reduceEqDiff, decide_true, decide_false, reduceIte, reduceCtorEq, Int.reduceBEq, Int.reduceBNe, bne_self_eq_false, Int.cast_ofNat_Int, Bool.not_true, Bool.not_false, IntKind.bits]
    rw [if_pos h6] at h
    exact aret_plain hs (under_rec _ _ _ _) h
  have h6 : ¬ 496 < n := by simp at h5; omega
  rw [if_neg h6] at h
  have hw : IntKind.wrap .i64 ((l.length : Int) - 16) = ((l.length - 16 : Nat) : Int) := by rw [wi64 (by omega) (by omega)]; omega
  simp only [hw, B_size, go_sem, Nat.reduceLeDiff, Nat.reduceAdd, Nat.reduceSub, Nat.reduceMul, Nat.reduceLT, Int.reduceLT, Int.reduceLE, Int.reduceAdd, Int.reduceSub, Int.reduceMul, Int.reduceToNat, Int.reduceNeg, Int.reduceEq, Nat.reducePow, Int.reducePow, Nat.reduceEqDiff, decide_true, decide_false, reduceIte, reduceCtorEq, Int.reduceBEq, Int.reduceBNe, bne_self_eq_false, Int.cast_ofNat_Int, Bool.not_true, Bool.not_false, IntKind.bits]
  refine cnd_split (fun h7 => ?_) (fun h7 => ?_)
  · have h8 : l.length - 16 < n := by simp at h7; omega
    simp only [go_sem, Nat.reduceLeDiff, Nat.reduceAdd, Nat.reduceSub, Nat.reduceMul, Nat.reduceLT, Int.reduceLT, Int.reduceLE, Int.reduceAdd, Int.reduceSub, Int.reduceMul, Int.reduceToNat, Int.reduceNeg, Int.reduceEq, Nat.reducePow, Int.reducePow, Nat.reduceEqDiff, decide_true, decide_false, reduceIte, reduceCtorEq, Int.reduceBEq, Int.reduceBNe, bne_self_eq_false, Int.cast_ofNat_Int, Bool.not_true, Bool.not_false, IntKind.bits]
    rw [if_pos h8] at h
    exact aret_plain hs (under_rec _ _ _ _) h
  have h8 : ¬ l.length - 16 < n := by simp at h7; omega
  rw [if_neg h8] at h
  have hw2 : IntKind.wrap .i64 (16 + (n : Int)) = ((16 + n : Nat) : Int) := by rw [wi64 (by omega) (by omega)]; omega
  have j1 : ((16 + n : Nat) : Int) ≤ (l.length : Int) := by omega
  have j2 : (16 : Int) ≤ ((16 + n : Nat) : Int) := by omega
  have j3 : (List.drop 4 (List.take 12 l)).length + (List.drop 16 (List.take (16 + n) l)).length ≤ 9223372036854775807 := by simp; omega
  have e1 : List.drop 4 (List.take 12 l) = (l.drop 4).take 8 := by rw [List.drop_take]
  have e2 : List.drop 16 (List.take (16 + n) l) = (l.drop 16).take n := by rw [List.drop_take, Nat.add_sub_cancel_left]
  simp only [hw2, i12, j1, j2, j3, e1, e2, go_sem, Nat.reduceLeDiff, Nat.reduceAdd, Nat.reduceSub, Nat.reduceMul, Nat.reduceLT, Int.reduceLT, Int.reduceLE, Int.reduceAdd, Int.reduceSub, Int.reduceMul, Int.reduceToNat, Int.reduceNeg, Int.reduceEq, Nat.reducePow, Int.reducePow, Nat.reduceEqDiff, decide_true, decide_false, reduceIte, reduceCtorEq, Int.reduceBEq, Int.reduceBNe, bne_self_eq_false, Int.cast_ofNat_Int, Bool.not_true, Bool.not_false, IntKind.bits]
  rw [e1, e2] at j3
  simp only [j3, go_sem, Nat.reduceLeDiff, Nat.reduceAdd, Nat.reduceSub, Nat.reduceMul, Nat.reduceLT, Int.reduceLT, Int.reduceLE, Int.reduceAdd, Int.reduceSub, Int.reduceMul, Int.reduceToNat, Int.reduceNeg, Int.reduceEq, Nat.reducePow, Int.reducePow, Nat.reduceEqDiff, decide_true, decide_false, reduceIte, reduceCtorEq, Int.reduceBEq, Int.reduceBNe, bne_self_eq_false, Int.cast_ofNat_Int, Bool.not_true, Bool.not_false, IntKind.bits]
  refine rsum_a (by simp; omega) ?_
  simp only [go_sem, Nat.reduceLeDiff, Nat.reduceAdd, Nat.reduceSub, Nat.reduceMul, Nat.reduceLT, Int.reduceLT, Int.reduceLE, Int.reduceAdd, Int.reduceSub, Int.reduceMul, Int.reduceToNat, Int.reduceNeg, Int.reduceEq, Nat.reducePow, Int.reducePow, Nat.reduceEqDiff, decide_true, decide_false, reduceIte, reduceCtorEq, Int.reduceBEq, Int.reduceBNe, bne_self_eq_false, Int.cast_ofNat_Int, Bool.not_true, Bool.not_false, IntKind.bits]
  refine cnd_split (fun h9 => ?_) (fun h9 => ?_)
  · have h10 : ¬ crcOf call ((l.drop 4).take 8 ++ (l.drop 16).take n) = (big ((l.drop 12).take 4) : Int) := by simpa using h9
    simp only [go_sem, Nat.reduceLeDiff, Nat.reduceAdd, Nat.reduceSub, Nat.reduceMul, Nat.reduceLT, Int.reduceLT, Int.reduceLE, Int.reduceAdd, Int.reduceSub, Int.reduceMul, Int.reduceToNat, Int.reduceNeg, Int.reduceEq, Nat.reducePow, Int.reducePow, Nat.reduceEqDiff, decide_true, decide_false, reduceIte, reduceCtorEq, Int.reduceBEq, Int.reduceBNe, bne_self_eq_false, Int.cast_ofNat_Int, Bool.not_true, Bool.not_false, IntKind.bits]
    rw [if_pos h10] at h
    exact aret_plain hs (under_rec _ _ _ _) h
  have h10 : ¬ ¬ crcOf call ((l.drop 4).take 8 ++ (l.drop 16).take n) = (big ((l.drop 12).take 4) : Int) := by simpa using h9
  rw [if_neg h10] at h
  simp only [hw2, j1, j2, e2, go_sem, Nat.reduceLeDiff, Nat.reduceAdd, Nat.reduceSub, Nat.reduceMul, Nat.reduceLT, Int.reduceLT, Int.reduceLE, Int.reduceAdd, Int.reduceSub, Int.reduceMul, Int.reduceToNat, Int.reduceNeg, Int.reduceEq, Nat.reducePow, Int.reducePow, Nat.reduceEqDiff, decide_true, decide_false, reduceIte, reduceCtorEq, Int.reduceBEq, Int.reduceBNe, bne_self_eq_false, Int.cast_ofNat_Int, Bool.not_true, Bool.not_false, IntKind.bits]
  exact aret_plain hs (under_rec _ _ _ _) h
theorem read_a {l : List UInt8} {H : AHeap} {K : AV → AHeap → Prop} (hl : l.length ≤ 100000) (h : K (recV (recL l)) H) : (ACalls Try.prog) 33 [.str (B l)] H K := by
  refine acalls_go mo t33 (fun hs hu => ?_)
  simp only [c33, B_size, go_sem, Nat.reduceLeDiff, Nat.reduceAdd, Nat.reduceSub, Nat.reduceMul, Nat.reduceLT, Int.reduceLT, Int.reduceLE, Int.reduceAdd, Int.reduceSub, Int.reduceMul, Int.reduceToNat, Int.reduceNeg, Int.reduceEq, Nat.reducePow, Int.reducePow, Nat.reduceEqDiff, decide_true, decide_false, reduceIte, reduceCtorEq, Int.reduceBEq, Int.reduceBNe, bne_self_eq_false, Int.cast_ofNat_Int, Bool.not_true, Bool.not_false, IntKind.bits]
  refine cnd_split (fun h1 => ?_) (fun h1 => ?_)
  · have h2 : l.length < 16 := by simp at h1; omega
    simp only [go_sem, Nat.reduceLeDiff, Nat.reduceAdd, Nat.reduceSub, Nat.reduceMul, Nat.reduceLT, Int.reduceLT, Int.reduceLE, Int.reduceAdd, Int.reduceSub, Int.reduceMul, Int.reduceToNat, Int.reduceNeg, Int.reduceEq, Nat.reducePow, Int.reducePow, Nat.reduceEqDiff, decide_true, decide_false, reduceIte, reduceCtorEq, Int.reduceBEq, Int.reduceBNe, bne_self_eq_false, Int.cast_ofNat_Int, Bool.not_true, Bool.not_false, IntKind.bits]
    rw [recL, if_pos h2] at h
    exact aret_plain hs (under_rec _ _ _ _) h
  have h2 : ¬ l.length < 16 := by simp at h1; omega
  rw [recL, if_neg h2] at h
  simp only [go_sem, Nat.reduceLeDiff, Nat.reduceAdd, Nat.reduceSub, Nat.reduceMul, Nat.reduceLT, Int.reduceLT, Int.reduceLE, Int.reduceAdd, Int.reduceSub, Int.reduceMul, Int.reduceToNat, Int.reduceNeg, Int.reduceEq, Nat.reducePow, Int.reducePow, Nat.reduceEqDiff, decide_true, decide_false, reduceIte, reduceCtorEq, Int.reduceBEq, Int.reduceBNe, bne_self_eq_false, Int.cast_ofNat_Int, Bool.not_true, Bool.not_false, IntKind.bits]
  refine cut_a ?_
  unfold cutP
  by_cases h3 : l.take 4 = penv
  · rw [if_pos (by exact h3)]
    rw [if_neg (by simpa using h3)] at h
    have k12 : ((12 : Int) ≤ ((l.drop 4).length : Int)) = True := by simp; omega
    have e4 : List.length (80 :: 69 :: 78 :: [(86 : UInt8)]) = 4 := rfl
    simp only [k12, e4, B_ext, B_size, List.take_length, Int.le_refl, go_sem, Nat.reduceLeDiff, Nat.reduceAdd, Nat.reduceSub, Nat.reduceMul, Nat.reduceLT, Int.reduceLT, Int.reduceLE, Int.reduceAdd, Int.reduceSub, Int.reduceMul, Int.reduceToNat, Int.reduceNeg, Int.reduceEq, Nat.reducePow, Int.reducePow, Nat.reduceEqDiff, decide_true, decide_false, reduceIte, reduceCtorEq, Int.reduceBEq, Int.reduceBNe, bne_self_eq_false, Int.cast_ofNat_Int, Bool.not_true, Bool.not_false, IntKind.bits]
    refine fromBigs_a (by simp; omega) ?_
    have f1 : ((l.drop 4).take 12).length = 12 := by simp; omega
    have f2 : words 3 ((l.drop 4).take 12) = [(big ((l.drop 4).take 4) : Int), (big ((l.drop 8).take 4) : Int), (big ((l.drop 12).take 4) : Int)] := by
      simp only [words, List.take_take, List.drop_take, List.drop_drop]
      rfl
    have hb := big_lt 4 ((l.drop 8).take 4) (by simp; omega)
    have hw12 : l.drop (4 + 12) = l.drop 16 := rfl
    generalize hn : big ((l.drop 8).take 4) = n at h hb f2 ⊢
    simp only [fromBigs, f1, f2, immOf, k12, hw12, List.drop_drop, Nat.reduceMod, Nat.reduceDiv, go_sem, Nat.reduceLeDiff, Nat.reduceAdd, Nat.reduceSub, Nat.reduceMul, Nat.reduceLT, Int.reduceLT, Int.reduceLE, Int.reduceAdd, Int.reduceSub, Int.reduceMul, Int.reduceToNat, Int.reduceNeg, Int.reduceEq, Nat.reducePow, Int.reducePow, Nat.reduceEqDiff, decide_true, decide_false, reduceIte, reduceCtorEq, Int.reduceBEq, Int.reduceBNe, bne_self_eq_false, Int.cast_ofNat_Int, Bool.not_true, Bool.not_false, IntKind.bits]
    refine cnd_split (fun h5 => ?_) (fun h5 => ?_)
    · have h6 : 496 < n := by simp at h5; omega
      simp only [go_sem, Nat.reduceLeDiff, Nat.reduceAdd, Nat.reduceSub, Nat.reduceMul, Nat.reduceLT, Int.reduceLT, Int.reduceLE, Int.reduceAdd, Int.reduceSub, Int.reduceMul, Int.reduceToNat, Int.reduceNeg, Int.reduceEq, Nat.reducePow, Int.reducePow, Nat.reduceEqDiff, decide_true, decide_false, reduceIte, reduceCtorEq, Int.reduceBEq, Int.reduceBNe, bne_self_eq_false, Int.cast_ofNat_Int, Bool.not_true, Bool.not_false, IntKind.bits]
      rw [if_pos h6] at h
      exact aret_plain hs (under_rec _ _ _ _) h
    have h6 : ¬ 496 < n := by simp at h5; omega
    rw [if_neg h6] at h
    simp only [go_sem, Nat.reduceLeDiff, Nat.reduceAdd, Nat.reduceSub, Nat.reduceMul, Nat.reduceLT, Int.reduceLT, Int.reduceLE, Int.reduceAdd, Int.reduceSub, Int.reduceMul, Int.reduceToNat, Int.reduceNeg, Int.reduceEq, Nat.reducePow, Int.reducePow, Nat.reduceEqDiff, decide_true, decide_false, reduceIte, reduceCtorEq, Int.reduceBEq, Int.reduceBNe, bne_self_eq_false, Int.cast_ofNat_Int, Bool.not_true, Bool.not_false, IntKind.bits]
    refine cnd_split (fun h7 => ?_) (fun h7 => ?_)
    · have h8 : l.length - 16 < n := by simp at h7; omega
      simp only [go_sem, Nat.reduceLeDiff, Nat.reduceAdd, Nat.reduceSub, Nat.reduceMul, Nat.reduceLT, Int.reduceLT, Int.reduceLE, Int.reduceAdd, Int.reduceSub, Int.reduceMul, Int.reduceToNat, Int.reduceNeg, Int.reduceEq, Nat.reducePow, Int.reducePow, Nat.reduceEqDiff, decide_true, decide_false, reduceIte, reduceCtorEq, Int.reduceBEq, Int.reduceBNe, bne_self_eq_false, Int.cast_ofNat_Int, Bool.not_true, Bool.not_false, IntKind.bits]
      rw [if_pos h8] at h
      exact aret_plain hs (under_rec _ _ _ _) h
    have h8 : ¬ l.length - 16 < n := by simp at h7; omega
    rw [if_neg h8] at h
    have k8 : ((8 : Int) ≤ ((l.drop 4).length : Int)) = True := by simp; omega
    have kn : ((n : Int) ≤ ((l.drop 16).length : Int)) = True := by simp; omega
    simp only [k8, kn, go_sem, Nat.reduceLeDiff, Nat.reduceAdd, Nat.reduceSub, Nat.reduceMul, Nat.reduceLT, Int.reduceLT, Int.reduceLE, Int.reduceAdd, Int.reduceSub, Int.reduceMul, Int.reduceToNat, Int.reduceNeg, Int.reduceEq, Nat.reducePow, Int.reducePow, Nat.reduceEqDiff, decide_true, decide_false, reduceIte, reduceCtorEq, Int.reduceBEq, Int.reduceBNe, bne_self_eq_false, Int.cast_ofNat_Int, Bool.not_true, Bool.not_false, IntKind.bits]
    refine ⟨_, sum_a (l := [(l.drop 4).take 8, (l.drop 16).take n]) (by simp) (fun s hs => ?_) ⟨rfl, rfl⟩, ?_⟩
    · simp only [List.mem_cons, List.not_mem_nil, or_false] at hs
      rcases hs with rfl | rfl <;> simp <;> omega
    have e3 : [(l.drop 4).take 8, (l.drop 16).take n].flatten = (l.drop 4).take 8 ++ (l.drop 16).take n := by simp
    simp only [e3, go_sem, Nat.reduceLeDiff, Nat.reduceAdd, Nat.reduceSub, Nat.reduceMul, Nat.reduceLT, Int.reduceLT, Int.reduceLE, Int.reduceAdd, Int.reduceSub, Int.reduceMul, Int.reduceToNat, Int.reduceNeg, Int.reduceEq, Nat.reducePow, Int.reducePow, Nat.reduceEqDiff, decide_true, decide_false, reduceIte, reduceCtorEq, Int.reduceBEq, Int.reduceBNe, bne_self_eq_false, Int.cast_ofNat_Int, Bool.not_true, Bool.not_false, IntKind.bits]
    refine cnd_split (fun h9 => ?_) (fun h9 => ?_)
    · have h10 : ¬ crcOf call ((l.drop 4).take 8 ++ (l.drop 16).take n) = (big ((l.drop 12).take 4) : Int) := by simpa using h9
      simp only [go_sem, Nat.reduceLeDiff, Nat.reduceAdd, Nat.reduceSub, Nat.reduceMul, Nat.reduceLT, Int.reduceLT, Int.reduceLE, Int.reduceAdd, Int.reduceSub, Int.reduceMul, Int.reduceToNat, Int.reduceNeg, Int.reduceEq, Nat.reducePow, Int.reducePow, Nat.reduceEqDiff, decide_true, decide_false, reduceIte, reduceCtorEq, Int.reduceBEq, Int.reduceBNe, bne_self_eq_false, Int.cast_ofNat_Int, Bool.not_true, Bool.not_false, IntKind.bits]
      rw [if_pos h10] at h
      exact aret_plain hs (under_rec _ _ _ _) h
    have h10 : ¬ ¬ crcOf call ((l.drop 4).take 8 ++ (l.drop 16).take n) = (big ((l.drop 12).take 4) : Int) := by simpa using h9
    rw [if_neg h10] at h
    simp only [kn, go_sem, Nat.reduceLeDiff, Nat.reduceAdd, Nat.reduceSub, Nat.reduceMul, Nat.reduceLT, Int.reduceLT, Int.reduceLE, Int.reduceAdd, Int.reduceSub, Int.reduceMul, Int.reduceToNat, Int.reduceNeg, Int.reduceEq, Nat.reducePow, Int.reducePow, Nat.reduceEqDiff, decide_true, decide_false, reduceIte, reduceCtorEq, Int.reduceBEq, Int.reduceBNe, bne_self_eq_false, Int.cast_ofNat_Int, Bool.not_true, Bool.not_false, IntKind.bits]
    exact aret_plain hs (under_rec _ _ _ _) h
  · rw [if_neg (by exact h3)]
    rw [if_pos h3] at h
    simp only [go_sem, Nat.reduceLeDiff, Nat.reduceAdd, Nat.reduceSub, Nat.reduceMul, Nat.reduceLT, Int.reduceLT, Int.reduceLE, Int.reduceAdd, Int.reduceSub, Int.reduceMul, Int.reduceToNat, Int.reduceNeg, Int.reduceEq, Nat.reducePow, Int.reducePow, Nat.reduceEqDiff, decide_true, decide_false, reduceIte, reduceCtorEq, Int.reduceBEq, Int.reduceBNe, bne_self_eq_false, Int.cast_ofNat_Int, Bool.not_true, Bool.not_false, IntKind.bits]
    exact aret_plain hs (under_rec _ _ _ _) h
def bodyL (n : Int) (d : List UInt8) : List UInt8 × Int :=
  if n < 0 ∨ 4294967295 < n then ([], 1) else if 496 < d.length then ([], 7) else
  (four n ++ four (d.length : Int) ++ four (crcOf call (four n ++ four (d.length : Int) ++ d)) ++ d, 0)
def bodyV (x : List UInt8 × Int) : AV := .tup [.str (B x.1), .int .i64 x.2]
theorem under_si (n : Nat) (s : ByteArray) (e : Int) : (AV.tup [.str s, .int .i64 e]).under n := .tup _ (fun c hc => by
  simp only [List.mem_cons, List.not_mem_nil, or_false] at hc
  rcases hc with rfl | rfl
  · exact .str _
  · exact .int _ _)
theorem four_len (n : Int) : (four n).length = 4 := rfl
theorem fours_two (a b : Int) : fours [a, b] = four a ++ four b := by simp [fours]
theorem body_a {n : Int} {d : List UInt8} {H : AHeap} {K : AV → AHeap → Prop} (h : K (bodyV (bodyL n d)) H) : (ACalls Try.prog) 31 [.agg [.int .i64 n, .str (B d)]] H K := by
  refine acalls_go mo t31 (fun hs hu => ?_)
  simp only [c31, go_sem, Nat.reduceLeDiff, Nat.reduceAdd, Nat.reduceSub, Nat.reduceMul, Nat.reduceLT, Int.reduceLT, Int.reduceLE, Int.reduceAdd, Int.reduceSub, Int.reduceMul, Int.reduceToNat, Int.reduceNeg, Int.reduceEq, Nat.reducePow, Int.reducePow, Nat.reduceEqDiff, decide_true, decide_false, reduceIte, reduceCtorEq, Int.reduceBEq, Int.reduceBNe, bne_self_eq_false, Int.cast_ofNat_Int, Bool.not_true, Bool.not_false, IntKind.bits]
  have rest : (n < 0 ∨ 4294967295 < n) → K (bodyV ([], 1)) H := fun hh => by rw [bodyL, if_pos hh] at h; exact h
  refine grd_split (fun h1 => ?_) (fun h1 => ?_)
  · simp only [h1, go_sem, Nat.reduceLeDiff, Nat.reduceAdd, Nat.reduceSub, Nat.reduceMul, Nat.reduceLT, Int.reduceLT, Int.reduceLE, Int.reduceAdd, Int.reduceSub, Int.reduceMul, Int.reduceToNat, Int.reduceNeg, Int.reduceEq, Nat.reducePow, Int.reducePow, Nat.reduceEqDiff, decide_true, decide_false, reduceIte, reduceCtorEq, Int.reduceBEq, Int.reduceBNe, bne_self_eq_false, Int.cast_ofNat_Int, Bool.not_true, Bool.not_false, IntKind.bits]
    exact aret_plain hs (under_si _ _ _) (rest (.inl (by simpa using h1)))
  simp only [h1, go_sem, Nat.reduceLeDiff, Nat.reduceAdd, Nat.reduceSub, Nat.reduceMul, Nat.reduceLT, Int.reduceLT, Int.reduceLE, Int.reduceAdd, Int.reduceSub, Int.reduceMul, Int.reduceToNat, Int.reduceNeg, Int.reduceEq, Nat.reducePow, Int.reducePow, Nat.reduceEqDiff, decide_true, decide_false, reduceIte, reduceCtorEq, Int.reduceBEq, Int.reduceBNe, bne_self_eq_false, Int.cast_ofNat_Int, Bool.not_true, Bool.not_false, IntKind.bits]
  refine cnd_split (fun h2 => ?_) (fun h2 => ?_)
  · simp only [go_sem, Nat.reduceLeDiff, Nat.reduceAdd, Nat.reduceSub, Nat.reduceMul, Nat.reduceLT, Int.reduceLT, Int.reduceLE, Int.reduceAdd, Int.reduceSub, Int.reduceMul, Int.reduceToNat, Int.reduceNeg, Int.reduceEq, Nat.reducePow, Int.reducePow, Nat.reduceEqDiff, decide_true, decide_false, reduceIte, reduceCtorEq, Int.reduceBEq, Int.reduceBNe, bne_self_eq_false, Int.cast_ofNat_Int, Bool.not_true, Bool.not_false, IntKind.bits]
    exact aret_plain hs (under_si _ _ _) (rest (.inr (by simpa using h2)))
  have h3 : ¬ (n < 0 ∨ 4294967295 < n) := by simp at h1 h2; omega
  rw [bodyL, if_neg h3] at h
  simp only [go_sem, Nat.reduceLeDiff, Nat.reduceAdd, Nat.reduceSub, Nat.reduceMul, Nat.reduceLT, Int.reduceLT, Int.reduceLE, Int.reduceAdd, Int.reduceSub, Int.reduceMul, Int.reduceToNat, Int.reduceNeg, Int.reduceEq, Nat.reducePow, Int.reducePow, Nat.reduceEqDiff, decide_true, decide_false, reduceIte, reduceCtorEq, Int.reduceBEq, Int.reduceBNe, bne_self_eq_false, Int.cast_ofNat_Int, Bool.not_true, Bool.not_false, IntKind.bits]
  refine cnd_split (fun h4 => ?_) (fun h4 => ?_)
  · simp only [go_sem, Nat.reduceLeDiff, Nat.reduceAdd, Nat.reduceSub, Nat.reduceMul, Nat.reduceLT, Int.reduceLT, Int.reduceLE, Int.reduceAdd, Int.reduceSub, Int.reduceMul, Int.reduceToNat, Int.reduceNeg, Int.reduceEq, Nat.reducePow, Int.reducePow, Nat.reduceEqDiff, decide_true, decide_false, reduceIte, reduceCtorEq, Int.reduceBEq, Int.reduceBNe, bne_self_eq_false, Int.cast_ofNat_Int, Bool.not_true, Bool.not_false, IntKind.bits]
    rw [if_pos (by simp at h4; omega)] at h
    exact aret_plain hs (under_si _ _ _) h
  have h5 : ¬ 496 < d.length := by simp at h4; omega
  rw [if_neg h5] at h
  simp only [go_sem, Nat.reduceLeDiff, Nat.reduceAdd, Nat.reduceSub, Nat.reduceMul, Nat.reduceLT, Int.reduceLT, Int.reduceLE, Int.reduceAdd, Int.reduceSub, Int.reduceMul, Int.reduceToNat, Int.reduceNeg, Int.reduceEq, Nat.reducePow, Int.reducePow, Nat.reduceEqDiff, decide_true, decide_false, reduceIte, reduceCtorEq, Int.reduceBEq, Int.reduceBNe, bne_self_eq_false, Int.cast_ofNat_Int, Bool.not_true, Bool.not_false, IntKind.bits]
  refine bigs_a (l := [n, (d.length : Int)]) (by simp) ?_
  simp only [fours_two, go_sem, Nat.reduceLeDiff, Nat.reduceAdd, Nat.reduceSub, Nat.reduceMul, Nat.reduceLT, Int.reduceLT, Int.reduceLE, Int.reduceAdd, Int.reduceSub, Int.reduceMul, Int.reduceToNat, Int.reduceNeg, Int.reduceEq, Nat.reducePow, Int.reducePow, Nat.reduceEqDiff, decide_true, decide_false, reduceIte, reduceCtorEq, Int.reduceBEq, Int.reduceBNe, bne_self_eq_false, Int.cast_ofNat_Int, Bool.not_true, Bool.not_false, IntKind.bits]
  refine ⟨_, sum_a (l := [four n ++ four (d.length : Int), d]) (by simp) (fun s hs => ?_) ⟨rfl, rfl⟩, ?_⟩
  · simp only [List.mem_cons, List.not_mem_nil, or_false] at hs
    rcases hs with rfl | rfl
    · simp [four_len]
    · omega
  have e1 : [four n ++ four (d.length : Int), d].flatten = four n ++ four (d.length : Int) ++ d := by simp
  simp only [e1, go_sem, Nat.reduceLeDiff, Nat.reduceAdd, Nat.reduceSub, Nat.reduceMul, Nat.reduceLT, Int.reduceLT, Int.reduceLE, Int.reduceAdd, Int.reduceSub, Int.reduceMul, Int.reduceToNat, Int.reduceNeg, Int.reduceEq, Nat.reducePow, Int.reducePow, Nat.reduceEqDiff, decide_true, decide_false, reduceIte, reduceCtorEq, Int.reduceBEq, Int.reduceBNe, bne_self_eq_false, Int.cast_ofNat_Int, Bool.not_true, Bool.not_false, IntKind.bits]
  refine ⟨_, big_a ⟨rfl, rfl⟩, ?_⟩
  have e2 : (four n ++ four (d.length : Int)).length + (four (crcOf call (four n ++ four (d.length : Int) ++ d))).length ≤ 9223372036854775807 := by simp [four_len]
  have e3 : (four n ++ four (d.length : Int) ++ four (crcOf call (four n ++ four (d.length : Int) ++ d))).length + d.length ≤ 9223372036854775807 := by simp [four_len]; omega
  simp only [e2, e3, go_sem, Nat.reduceLeDiff, Nat.reduceAdd, Nat.reduceSub, Nat.reduceMul, Nat.reduceLT, Int.reduceLT, Int.reduceLE, Int.reduceAdd, Int.reduceSub, Int.reduceMul, Int.reduceToNat, Int.reduceNeg, Int.reduceEq, Nat.reducePow, Int.reducePow, Nat.reduceEqDiff, decide_true, decide_false, reduceIte, reduceCtorEq, Int.reduceBEq, Int.reduceBNe, bne_self_eq_false, Int.cast_ofNat_Int, Bool.not_true, Bool.not_false, IntKind.bits]
  exact aret_plain hs (under_si _ _ _) h
theorem rbody_a {n : Int} {d : List UInt8} {H : AHeap} {K : AV → AHeap → Prop} (h : K (bodyV (bodyL n d)) H) : (ACalls Try.prog) 32 [.agg [.int .i64 n, .str (B d)]] H K := by
  refine acalls_go mo t32 (fun hs hu => ?_)
  simp only [c32, go_sem, Nat.reduceLeDiff, Nat.reduceAdd, Nat.reduceSub, Nat.reduceMul, Nat.reduceLT, Int.reduceLT, Int.reduceLE, Int.reduceAdd, Int.reduceSub, Int.reduceMul, Int.reduceToNat, Int.reduceNeg, Int.reduceEq, Nat.reducePow, Int.reducePow, Nat.reduceEqDiff, decide_true, decide_false, reduceIte, reduceCtorEq, Int.reduceBEq, Int.reduceBNe, bne_self_eq_false, Int.cast_ofNat_Int, Bool.not_true, Bool.not_false, IntKind.bits]
  have rest : (n < 0 ∨ 4294967295 < n) → K (bodyV ([], 1)) H := fun hh => by rw [bodyL, if_pos hh] at h; exact h
  refine grd_split (fun h1 => ?_) (fun h1 => ?_)
  · simp only [h1, go_sem, Nat.reduceLeDiff, Nat.reduceAdd, Nat.reduceSub, Nat.reduceMul, Nat.reduceLT, Int.reduceLT, Int.reduceLE, Int.reduceAdd, Int.reduceSub, Int.reduceMul, Int.reduceToNat, Int.reduceNeg, Int.reduceEq, Nat.reducePow, Int.reducePow, Nat.reduceEqDiff, decide_true, decide_false, reduceIte, reduceCtorEq, Int.reduceBEq, Int.reduceBNe, bne_self_eq_false, Int.cast_ofNat_Int, Bool.not_true, Bool.not_false, IntKind.bits]
    exact aret_plain hs (under_si _ _ _) (rest (.inl (by simpa using h1)))
  simp only [h1, go_sem, Nat.reduceLeDiff, Nat.reduceAdd, Nat.reduceSub, Nat.reduceMul, Nat.reduceLT, Int.reduceLT, Int.reduceLE, Int.reduceAdd, Int.reduceSub, Int.reduceMul, Int.reduceToNat, Int.reduceNeg, Int.reduceEq, Nat.reducePow, Int.reducePow, Nat.reduceEqDiff, decide_true, decide_false, reduceIte, reduceCtorEq, Int.reduceBEq, Int.reduceBNe, bne_self_eq_false, Int.cast_ofNat_Int, Bool.not_true, Bool.not_false, IntKind.bits]
  refine cnd_split (fun h2 => ?_) (fun h2 => ?_)
  · simp only [go_sem, Nat.reduceLeDiff, Nat.reduceAdd, Nat.reduceSub, Nat.reduceMul, Nat.reduceLT, Int.reduceLT, Int.reduceLE, Int.reduceAdd, Int.reduceSub, Int.reduceMul, Int.reduceToNat, Int.reduceNeg, Int.reduceEq, Nat.reducePow, Int.reducePow, Nat.reduceEqDiff, decide_true, decide_false, reduceIte, reduceCtorEq, Int.reduceBEq, Int.reduceBNe, bne_self_eq_false, Int.cast_ofNat_Int, Bool.not_true, Bool.not_false, IntKind.bits]
    exact aret_plain hs (under_si _ _ _) (rest (.inr (by simpa using h2)))
  have h3 : ¬ (n < 0 ∨ 4294967295 < n) := by simp at h1 h2; omega
  rw [bodyL, if_neg h3] at h
  simp only [go_sem, Nat.reduceLeDiff, Nat.reduceAdd, Nat.reduceSub, Nat.reduceMul, Nat.reduceLT, Int.reduceLT, Int.reduceLE, Int.reduceAdd, Int.reduceSub, Int.reduceMul, Int.reduceToNat, Int.reduceNeg, Int.reduceEq, Nat.reducePow, Int.reducePow, Nat.reduceEqDiff, decide_true, decide_false, reduceIte, reduceCtorEq, Int.reduceBEq, Int.reduceBNe, bne_self_eq_false, Int.cast_ofNat_Int, Bool.not_true, Bool.not_false, IntKind.bits]
  refine cnd_split (fun h4 => ?_) (fun h4 => ?_)
  · simp only [go_sem, Nat.reduceLeDiff, Nat.reduceAdd, Nat.reduceSub, Nat.reduceMul, Nat.reduceLT, Int.reduceLT, Int.reduceLE, Int.reduceAdd, Int.reduceSub, Int.reduceMul, Int.reduceToNat, Int.reduceNeg, Int.reduceEq, Nat.reducePow, Int.reducePow, Nat.reduceEqDiff, decide_true, decide_false, reduceIte, reduceCtorEq, Int.reduceBEq, Int.reduceBNe, bne_self_eq_false, Int.cast_ofNat_Int, Bool.not_true, Bool.not_false, IntKind.bits]
    rw [if_pos (by simp at h4; omega)] at h
    exact aret_plain hs (under_si _ _ _) h
  have h5 : ¬ 496 < d.length := by simp at h4; omega
  rw [if_neg h5] at h
  simp only [go_sem, Nat.reduceLeDiff, Nat.reduceAdd, Nat.reduceSub, Nat.reduceMul, Nat.reduceLT, Int.reduceLT, Int.reduceLE, Int.reduceAdd, Int.reduceSub, Int.reduceMul, Int.reduceToNat, Int.reduceNeg, Int.reduceEq, Nat.reducePow, Int.reducePow, Nat.reduceEqDiff, decide_true, decide_false, reduceIte, reduceCtorEq, Int.reduceBEq, Int.reduceBNe, bne_self_eq_false, Int.cast_ofNat_Int, Bool.not_true, Bool.not_false, IntKind.bits]
  refine rbigs_a (l := [n, (d.length : Int)]) (by simp) ?_
  have e0 : (four n ++ four (d.length : Int)).length + d.length ≤ 9223372036854775807 := by simp [four_len]; omega
  simp only [fours_two, e0, go_sem, Nat.reduceLeDiff, Nat.reduceAdd, Nat.reduceSub, Nat.reduceMul, Nat.reduceLT, Int.reduceLT, Int.reduceLE, Int.reduceAdd, Int.reduceSub, Int.reduceMul, Int.reduceToNat, Int.reduceNeg, Int.reduceEq, Nat.reducePow, Int.reducePow, Nat.reduceEqDiff, decide_true, decide_false, reduceIte, reduceCtorEq, Int.reduceBEq, Int.reduceBNe, bne_self_eq_false, Int.cast_ofNat_Int, Bool.not_true, Bool.not_false, IntKind.bits]
  first | refine rsum_a (by simp [four_len]; omega) ?_ | refine ⟨_, rsum_a (by simp [four_len]; omega) ⟨rfl, rfl⟩, ?_⟩
  simp only [go_sem, Nat.reduceLeDiff, Nat.reduceAdd, Nat.reduceSub, Nat.reduceMul, Nat.reduceLT, Int.reduceLT, Int.reduceLE, Int.reduceAdd, Int.reduceSub, Int.reduceMul, Int.reduceToNat, Int.reduceNeg, Int.reduceEq, Nat.reducePow, Int.reducePow, Nat.reduceEqDiff, decide_true, decide_false, reduceIte, reduceCtorEq, Int.reduceBEq, Int.reduceBNe, bne_self_eq_false, Int.cast_ofNat_Int, Bool.not_true, Bool.not_false, IntKind.bits]
  first | refine rbig_a ?_ | refine ⟨_, rbig_a ⟨rfl, rfl⟩, ?_⟩
  have e2 : (four n ++ four (d.length : Int)).length + (four (crcOf call (four n ++ four (d.length : Int) ++ d))).length ≤ 9223372036854775807 := by simp [four_len]
  have e3 : (four n ++ four (d.length : Int) ++ four (crcOf call (four n ++ four (d.length : Int) ++ d))).length + d.length ≤ 9223372036854775807 := by simp [four_len]; omega
  simp only [e2, e3, go_sem, Nat.reduceLeDiff, Nat.reduceAdd, Nat.reduceSub, Nat.reduceMul, Nat.reduceLT, Int.reduceLT, Int.reduceLE, Int.reduceAdd, Int.reduceSub, Int.reduceMul, Int.reduceToNat, Int.reduceNeg, Int.reduceEq, Nat.reducePow, Int.reducePow, Nat.reduceEqDiff, decide_true, decide_false, reduceIte, reduceCtorEq, Int.reduceBEq, Int.reduceBNe, bne_self_eq_false, Int.cast_ofNat_Int, Bool.not_true, Bool.not_false, IntKind.bits]
  exact aret_plain hs (under_si _ _ _) h
/-- Whether number a is behind b. -/
def newerB (a b : Int) : Bool := decide (0 < IntKind.wrap .u32 (IntKind.wrap .u32 a - IntKind.wrap .u32 b)) && decide (IntKind.wrap .u32 (IntKind.wrap .u32 a - IntKind.wrap .u32 b) < 2147483648)
theorem newer_a {a b : Int} {H : AHeap} {K : AV → AHeap → Prop} (h : K (.bool (newerB a b)) H) : (ACalls Try.prog) 35 [.int .i64 a, .int .i64 b] H K := by
  refine acalls_go mo t35 (fun hs hu => ?_)
  simp only [c35, go_sem, Nat.reduceLeDiff, Nat.reduceAdd, Nat.reduceSub, Nat.reduceMul, Nat.reduceLT, Int.reduceLT, Int.reduceLE, Int.reduceAdd, Int.reduceSub, Int.reduceMul, Int.reduceToNat, Int.reduceNeg, Int.reduceEq, Nat.reducePow, Int.reducePow, Nat.reduceEqDiff, decide_true, decide_false, reduceIte, reduceCtorEq, Int.reduceBEq, Int.reduceBNe, bne_self_eq_false, Int.cast_ofNat_Int, Bool.not_true, Bool.not_false, IntKind.bits]
  refine grd_split (fun h1 => ?_) (fun h1 => ?_)
  · simp only [h1, go_sem, Nat.reduceLeDiff, Nat.reduceAdd, Nat.reduceSub, Nat.reduceMul, Nat.reduceLT, Int.reduceLT, Int.reduceLE, Int.reduceAdd, Int.reduceSub, Int.reduceMul, Int.reduceToNat, Int.reduceNeg, Int.reduceEq, Nat.reducePow, Int.reducePow, Nat.reduceEqDiff, decide_true, decide_false, reduceIte, reduceCtorEq, Int.reduceBEq, Int.reduceBNe, bne_self_eq_false, Int.cast_ofNat_Int, Bool.not_true, Bool.not_false, IntKind.bits]
    exact aret_plain hs (.bool _) (by simpa only [newerB, h1, Bool.true_and] using h)
  · simp only [h1, go_sem, Nat.reduceLeDiff, Nat.reduceAdd, Nat.reduceSub, Nat.reduceMul, Nat.reduceLT, Int.reduceLT, Int.reduceLE, Int.reduceAdd, Int.reduceSub, Int.reduceMul, Int.reduceToNat, Int.reduceNeg, Int.reduceEq, Nat.reducePow, Int.reducePow, Nat.reduceEqDiff, decide_true, decide_false, reduceIte, reduceCtorEq, Int.reduceBEq, Int.reduceBNe, bne_self_eq_false, Int.cast_ofNat_Int, Bool.not_true, Bool.not_false, IntKind.bits]
    exact aret_plain hs (.bool _) (by simpa only [newerB, h1, Bool.false_and] using h)
theorem rnewer_a {a b : Int} {H : AHeap} {K : AV → AHeap → Prop} (h : K (.bool (newerB a b)) H) : (ACalls Try.prog) 36 [.int .i64 a, .int .i64 b] H K := by
  refine acalls_go mo t36 (fun hs hu => ?_)
  simp only [c36, go_sem, Nat.reduceLeDiff, Nat.reduceAdd, Nat.reduceSub, Nat.reduceMul, Nat.reduceLT, Int.reduceLT, Int.reduceLE, Int.reduceAdd, Int.reduceSub, Int.reduceMul, Int.reduceToNat, Int.reduceNeg, Int.reduceEq, Nat.reducePow, Int.reducePow, Nat.reduceEqDiff, decide_true, decide_false, reduceIte, reduceCtorEq, Int.reduceBEq, Int.reduceBNe, bne_self_eq_false, Int.cast_ofNat_Int, Bool.not_true, Bool.not_false, IntKind.bits]
  have e : ∀ x : Int, decide (0 < x) = decide (1 ≤ x) := fun x => decide_eq_decide.2 (by omega)
  simp only [newerB, e] at h
  refine grd_split (fun h1 => ?_) (fun h1 => ?_)
  · simp only [h1, go_sem, Nat.reduceLeDiff, Nat.reduceAdd, Nat.reduceSub, Nat.reduceMul, Nat.reduceLT, Int.reduceLT, Int.reduceLE, Int.reduceAdd, Int.reduceSub, Int.reduceMul, Int.reduceToNat, Int.reduceNeg, Int.reduceEq, Nat.reducePow, Int.reducePow, Nat.reduceEqDiff, decide_true, decide_false, reduceIte, reduceCtorEq, Int.reduceBEq, Int.reduceBNe, bne_self_eq_false, Int.cast_ofNat_Int, Bool.not_true, Bool.not_false, IntKind.bits]
    exact aret_plain hs (.bool _) (by simpa only [h1, Bool.true_and] using h)
  · simp only [h1, go_sem, Nat.reduceLeDiff, Nat.reduceAdd, Nat.reduceSub, Nat.reduceMul, Nat.reduceLT, Int.reduceLT, Int.reduceLE, Int.reduceAdd, Int.reduceSub, Int.reduceMul, Int.reduceToNat, Int.reduceNeg, Int.reduceEq, Nat.reducePow, Int.reducePow, Nat.reduceEqDiff, decide_true, decide_false, reduceIte, reduceCtorEq, Int.reduceBEq, Int.reduceBNe, bne_self_eq_false, Int.cast_ofNat_Int, Bool.not_true, Bool.not_false, IntKind.bits]
    exact aret_plain hs (.bool _) (by simpa only [h1, Bool.false_and] using h)
def nextN (n : Int) : Int := IntKind.wrap .i64 (IntKind.wrap .u32 (IntKind.wrap .u32 n + 1))
theorem next_a {n : Int} {H : AHeap} {K : AV → AHeap → Prop} (h : K (.int .i64 (nextN n)) H) : (ACalls Try.prog) 37 [.int .i64 n] H K := by
  refine acalls_go mo t37 (fun hs hu => ?_)
  simp only [c37, go_sem, Nat.reduceLeDiff, Nat.reduceAdd, Nat.reduceSub, Nat.reduceMul, Nat.reduceLT, Int.reduceLT, Int.reduceLE, Int.reduceAdd, Int.reduceSub, Int.reduceMul, Int.reduceToNat, Int.reduceNeg, Int.reduceEq, Nat.reducePow, Int.reducePow, Nat.reduceEqDiff, decide_true, decide_false, reduceIte, reduceCtorEq, Int.reduceBEq, Int.reduceBNe, bne_self_eq_false, Int.cast_ofNat_Int, Bool.not_true, Bool.not_false, IntKind.bits]
  exact aret_plain hs (.int _ _) h
theorem rnext_a {n : Int} {H : AHeap} {K : AV → AHeap → Prop} (h : K (.int .i64 (nextN n)) H) : (ACalls Try.prog) 38 [.int .i64 n] H K := by
  refine acalls_go mo t38 (fun hs hu => ?_)
  simp only [c38, go_sem, Nat.reduceLeDiff, Nat.reduceAdd, Nat.reduceSub, Nat.reduceMul, Nat.reduceLT, Int.reduceLT, Int.reduceLE, Int.reduceAdd, Int.reduceSub, Int.reduceMul, Int.reduceToNat, Int.reduceNeg, Int.reduceEq, Nat.reducePow, Int.reducePow, Nat.reduceEqDiff, decide_true, decide_false, reduceIte, reduceCtorEq, Int.reduceBEq, Int.reduceBNe, bne_self_eq_false, Int.cast_ofNat_Int, Bool.not_true, Bool.not_false, IntKind.bits]
  exact aret_plain hs (.int _ _) h
end Go.Proofs.Ythpgppamdejjhaa.AL
