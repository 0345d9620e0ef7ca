/- Package pick and its reference told. -/
import Derived.Test.YthpgppamdejjhaaALDPick
import Derived.Test.YthpgppamdejjhaaALRec
import Derived.Test.YthpgppamdejjhaaALRow
set_option linter.unusedSimpArgs false
set_option linter.unusedVariables false
set_option maxRecDepth 100000
namespace Go.Proofs.Ythpgppamdejjhaa.AL
open Go Go.Proofs Go.Proofs.Ythpgppamdejjhaa.G
attribute [local go_sem] go_seq go_skip go_region go_cond go_block go_exit go_ret nxt_nil nxt_code nxt_blk nxt_cut leave_nil leave_code leave_cut leave_blk rtn_nil rtn_code rtn_blk rtn_cut cnd_t cnd_f rgn_nil rgY_some rgY_none rgH_some rgP_some retTo_is rgV_func grd_und grd_tt grd_ff grd_tf grd_ft rgn_q rgn_alloc rgn_box rgn_store rgn_lit rgn_app rgn_copy rgn_mk rgn_s2b rgn_call rgn_callv rgn_c rgn_guard post_ret post_normal retY_some ares aresL ares1 AX.ev aput List.getD_cons_zero List.getD_cons_succ List.set_cons_zero List.set_cons_succ List.map_cons List.map_nil aq abin aint astr abeq aconv asame aextract alenS alenL aun apart aload afieldAddr afield aidxSl aidxPt aidxStr aidxArr alen abound asliceStr asliceSl abest anonil afill astore acells acopy litAll amk as2b anil nilOf aseq aeqs aeqv fits fit1 hp_next hp_push hp_get hp_set List.length_cons List.length_nil List.getElem?_cons_zero List.getElem?_cons_succ List.cons_append List.nil_append List.append_nil List.take_succ_cons List.take_zero List.drop_succ_cons List.drop_zero List.all_cons List.all_nil Option.map_some Option.some.injEq Bool.and_true Bool.true_and Bool.false_eq_true if_true if_false ite_true ite_false Bool.and_self true_and and_true and_self Nat.zero_add Nat.le_refl Int.toNat_natCast beq_self_eq_true eq_self tops_zero tops_succ Int.natCast_nonneg List.take_nil List.drop_nil Option.map_none flat_bool one_bool cells_bool flat_int one_int cells_int flat_str one_str cells_str flat_nilp one_nilp cells_nilp flat_ptr one_ptr cells_ptr flat_nils one_nils cells_nils flat_imm one_imm cells_imm flat_wr one_wr cells_wr flat_func one_func cells_func flat_nilf one_nilf cells_nilf flat_map one_map cells_map flat_nilm one_nilm cells_nilm flat_iface one_iface cells_iface flat_nili one_nili cells_nili flat_rd one_rd cells_rd flat_emp one_emp cells_emp flat_byteV one_byteV cells_byteV flat_agg cells_agg one_agg B_size B_list B_ext B_toList B_app List.take_length Int.le_refl
/-- Which of two sectors has the newest record, and that record. -/
def whichL (a b : List UInt8) : Int × Int × List UInt8 :=
  if (recL b).2.2 = 0 ∧ ((recL a).2.2 ≠ 0 ∨ newerB (recL b).1 (recL a).1 = true) then (1, (recL b).1, (recL b).2.1) else
  if (recL a).2.2 = 0 then (0, (recL a).1, (recL a).2.1) else (-1, 0, [])
def whichV (x : Int × Int × List UInt8) : AV := .tup [.int .i64 x.1, .agg [.int .i64 x.2.1, .str (B x.2.2)]]
theorem under_which (n : Nat) (e a : Int) (s : ByteArray) : (AV.tup [.int .i64 e, .agg [.int .i64 a, .str s]]).under n := .tup _ (fun c hc => by
  simp only [List.mem_cons, List.not_mem_nil, or_false] at hc
  rcases hc with rfl | rfl
  · exact .int _ _
  · refine .agg _ (fun c hc => ?_)
    simp only [List.mem_cons, List.not_mem_nil, or_false] at hc
    rcases hc with rfl | rfl
    · exact .int _ _
    · exact .str _)
theorem which_a {a b : List UInt8} {H : AHeap} {K : AV → AHeap → Prop} (ha : a.length ≤ 100000) (hb : b.length ≤ 100000) (h : K (whichV (whichL a b)) H) : (ACalls Try.prog) 40 [.str (B a), .str (B b)] H K := by
  refine acalls_go mo t40 (fun hs hu => ?_)
  simp only [c40, go_sem, Nat.reduceLeDiff, Nat.reduceAdd, Nat.reduceSub, Nat.reduceMul, Nat.reduceLT, Int.reduceLT, Int.reduceLE, Int.reduceAdd, Int.reduceSub, Int.reduceMul, Int.reduceToNat, Int.reduceNeg, Int.reduceEq, Nat.reducePow, Int.reducePow, Nat.reduceEqDiff, decide_true, decide_false, reduceIte, reduceCtorEq, Int.reduceBEq, Int.reduceBNe, bne_self_eq_false, Int.cast_ofNat_Int, Bool.not_true, Bool.not_false, IntKind.bits]
  refine go_rounds mono 3 ?_
  simp only [rnds_succ, go_sem, Nat.reduceLeDiff, Nat.reduceAdd, Nat.reduceSub, Nat.reduceMul, Nat.reduceLT, Int.reduceLT, Int.reduceLE, Int.reduceAdd, Int.reduceSub, Int.reduceMul, Int.reduceToNat, Int.reduceNeg, Int.reduceEq, Nat.reducePow, Int.reducePow, Nat.reduceEqDiff, decide_true, decide_false, reduceIte, reduceCtorEq, Int.reduceBEq, Int.reduceBNe, bne_self_eq_false, Int.cast_ofNat_Int, Bool.not_true, Bool.not_false, IntKind.bits]
  refine read_a ha ?_
  unfold whichL at h
  generalize recL a = x at h ⊢
  obtain ⟨n, d, e⟩ := x
  simp only [recV, go_sem, Nat.reduceLeDiff, Nat.reduceAdd, Nat.reduceSub, Nat.reduceMul, Nat.reduceLT, Int.reduceLT, Int.reduceLE, Int.reduceAdd, Int.reduceSub, Int.reduceMul, Int.reduceToNat, Int.reduceNeg, Int.reduceEq, Nat.reducePow, Int.reducePow, Nat.reduceEqDiff, decide_true, decide_false, reduceIte, reduceCtorEq, Int.reduceBEq, Int.reduceBNe, bne_self_eq_false, Int.cast_ofNat_Int, Bool.not_true, Bool.not_false, IntKind.bits]
  refine grd_split (fun h1 => ?_) (fun h1 => ?_)
  · have h2 : e = 0 := by simpa using h1
    subst h2
    simp (disch := omega) only [wi64, rnds_succ, go_sem, Nat.reduceLeDiff, Nat.reduceAdd, Nat.reduceSub, Nat.reduceMul, Nat.reduceLT, Int.reduceLT, Int.reduceLE, Int.reduceAdd, Int.reduceSub, Int.reduceMul, Int.reduceToNat, Int.reduceNeg, Int.reduceEq, Nat.reducePow, Int.reducePow, Nat.reduceEqDiff, decide_true, decide_false, reduceIte, reduceCtorEq, Int.reduceBEq, Int.reduceBNe, bne_self_eq_false, Int.cast_ofNat_Int, Bool.not_true, Bool.not_false, IntKind.bits]
    refine read_a hb ?_
    generalize recL b = x at h ⊢
    obtain ⟨m, f, g⟩ := x
    simp only [recV, go_sem, Nat.reduceLeDiff, Nat.reduceAdd, Nat.reduceSub, Nat.reduceMul, Nat.reduceLT, Int.reduceLT, Int.reduceLE, Int.reduceAdd, Int.reduceSub, Int.reduceMul, Int.reduceToNat, Int.reduceNeg, Int.reduceEq, Nat.reducePow, Int.reducePow, Nat.reduceEqDiff, decide_true, decide_false, reduceIte, reduceCtorEq, Int.reduceBEq, Int.reduceBNe, bne_self_eq_false, Int.cast_ofNat_Int, Bool.not_true, Bool.not_false, IntKind.bits]
    refine grd_split (fun h3 => ?_) (fun h3 => ?_)
    · have h4 : g = 0 := by simpa using h3
      subst h4
      simp only [go_sem, Nat.reduceLeDiff, Nat.reduceAdd, Nat.reduceSub, Nat.reduceMul, Nat.reduceLT, Int.reduceLT, Int.reduceLE, Int.reduceAdd, Int.reduceSub, Int.reduceMul, Int.reduceToNat, Int.reduceNeg, Int.reduceEq, Nat.reducePow, Int.reducePow, Nat.reduceEqDiff, decide_true, decide_false, reduceIte, reduceCtorEq, Int.reduceBEq, Int.reduceBNe, bne_self_eq_false, Int.cast_ofNat_Int, Bool.not_true, Bool.not_false, IntKind.bits]
      refine newer_a ?_
      simp only [go_sem, Nat.reduceLeDiff, Nat.reduceAdd, Nat.reduceSub, Nat.reduceMul, Nat.reduceLT, Int.reduceLT, Int.reduceLE, Int.reduceAdd, Int.reduceSub, Int.reduceMul, Int.reduceToNat, Int.reduceNeg, Int.reduceEq, Nat.reducePow, Int.reducePow, Nat.reduceEqDiff, decide_true, decide_false, reduceIte, reduceCtorEq, Int.reduceBEq, Int.reduceBNe, bne_self_eq_false, Int.cast_ofNat_Int, Bool.not_true, Bool.not_false, IntKind.bits]
      refine cnd_split (fun h5 => ?_) (fun h5 => ?_)
      · simp (disch := omega) only [wi64, rnds_succ, go_sem, Nat.reduceLeDiff, Nat.reduceAdd, Nat.reduceSub, Nat.reduceMul, Nat.reduceLT, Int.reduceLT, Int.reduceLE, Int.reduceAdd, Int.reduceSub, Int.reduceMul, Int.reduceToNat, Int.reduceNeg, Int.reduceEq, Nat.reducePow, Int.reducePow, Nat.reduceEqDiff, decide_true, decide_false, reduceIte, reduceCtorEq, Int.reduceBEq, Int.reduceBNe, bne_self_eq_false, Int.cast_ofNat_Int, Bool.not_true, Bool.not_false, IntKind.bits]
        exact aret_plain hs (under_which _ _ _ _) (by simpa [h5, whichV] using h)
      · simp (disch := omega) only [wi64, rnds_succ, go_sem, Nat.reduceLeDiff, Nat.reduceAdd, Nat.reduceSub, Nat.reduceMul, Nat.reduceLT, Int.reduceLT, Int.reduceLE, Int.reduceAdd, Int.reduceSub, Int.reduceMul, Int.reduceToNat, Int.reduceNeg, Int.reduceEq, Nat.reducePow, Int.reducePow, Nat.reduceEqDiff, decide_true, decide_false, reduceIte, reduceCtorEq, Int.reduceBEq, Int.reduceBNe, bne_self_eq_false, Int.cast_ofNat_Int, Bool.not_true, Bool.not_false, IntKind.bits]
        exact aret_plain hs (under_which _ _ _ _) (by simpa [h5, whichV] using h)
    · have h4 : ¬ g = 0 := by simpa using h3
      simp (disch := omega) only [h3, wi64, rnds_succ, go_sem, Nat.reduceLeDiff, Nat.reduceAdd, Nat.reduceSub, Nat.reduceMul, Nat.reduceLT, Int.reduceLT, Int.reduceLE, Int.reduceAdd, Int.reduceSub, Int.reduceMul, Int.reduceToNat, Int.reduceNeg, Int.reduceEq, Nat.reducePow, Int.reducePow, Nat.reduceEqDiff, decide_true, decide_false, reduceIte, reduceCtorEq, Int.reduceBEq, Int.reduceBNe, bne_self_eq_false, Int.cast_ofNat_Int, Bool.not_true, Bool.not_false, IntKind.bits]
      exact aret_plain hs (under_which _ _ _ _) (by simpa [h4, whichV] using h)
  · have h2 : ¬ e = 0 := by simpa using h1
    simp (disch := omega) only [h1, wi64, rnds_succ, go_sem, Nat.reduceLeDiff, Nat.reduceAdd, Nat.reduceSub, Nat.reduceMul, Nat.reduceLT, Int.reduceLT, Int.reduceLE, Int.reduceAdd, Int.reduceSub, Int.reduceMul, Int.reduceToNat, Int.reduceNeg, Int.reduceEq, Nat.reducePow, Int.reducePow, Nat.reduceEqDiff, decide_true, decide_false, reduceIte, reduceCtorEq, Int.reduceBEq, Int.reduceBNe, bne_self_eq_false, Int.cast_ofNat_Int, Bool.not_true, Bool.not_false, IntKind.bits]
    refine read_a hb ?_
    generalize recL b = x at h ⊢
    obtain ⟨m, f, g⟩ := x
    simp only [recV, go_sem, Nat.reduceLeDiff, Nat.reduceAdd, Nat.reduceSub, Nat.reduceMul, Nat.reduceLT, Int.reduceLT, Int.reduceLE, Int.reduceAdd, Int.reduceSub, Int.reduceMul, Int.reduceToNat, Int.reduceNeg, Int.reduceEq, Nat.reducePow, Int.reducePow, Nat.reduceEqDiff, decide_true, decide_false, reduceIte, reduceCtorEq, Int.reduceBEq, Int.reduceBNe, bne_self_eq_false, Int.cast_ofNat_Int, Bool.not_true, Bool.not_false, IntKind.bits]
    refine grd_split (fun h3 => ?_) (fun h3 => ?_)
    · have h4 : g = 0 := by simpa using h3
      subst h4
      simp (disch := omega) only [wi64, rnds_succ, go_sem, Nat.reduceLeDiff, Nat.reduceAdd, Nat.reduceSub, Nat.reduceMul, Nat.reduceLT, Int.reduceLT, Int.reduceLE, Int.reduceAdd, Int.reduceSub, Int.reduceMul, Int.reduceToNat, Int.reduceNeg, Int.reduceEq, Nat.reducePow, Int.reducePow, Nat.reduceEqDiff, decide_true, decide_false, reduceIte, reduceCtorEq, Int.reduceBEq, Int.reduceBNe, bne_self_eq_false, Int.cast_ofNat_Int, Bool.not_true, Bool.not_false, IntKind.bits]
      exact aret_plain hs (under_which _ _ _ _) (by simpa [h2, whichV] using h)
    · have h4 : ¬ g = 0 := by simpa using h3
      simp (disch := omega) only [h3, wi64, rnds_succ, go_sem, Nat.reduceLeDiff, Nat.reduceAdd, Nat.reduceSub, Nat.reduceMul, Nat.reduceLT, Int.reduceLT, Int.reduceLE, Int.reduceAdd, Int.reduceSub, Int.reduceMul, Int.reduceToNat, Int.reduceNeg, Int.reduceEq, Nat.reducePow, Int.reducePow, Nat.reduceEqDiff, decide_true, decide_false, reduceIte, reduceCtorEq, Int.reduceBEq, Int.reduceBNe, bne_self_eq_false, Int.cast_ofNat_Int, Bool.not_true, Bool.not_false, IntKind.bits]
      exact aret_plain hs (under_which _ _ _ _) (by simpa [h2, h4, whichV] using h)
theorem rwhich_a {a b : List UInt8} {H : AHeap} {K : AV → AHeap → Prop} (ha : a.length ≤ 100000) (hb : b.length ≤ 100000) (h : K (whichV (whichL a b)) H) : (ACalls Try.prog) 41 [.str (B a), .str (B b)] H K := by
  refine acalls_go mo t41 (fun hs hu => ?_)
  simp only [c41, go_sem, Nat.reduceLeDiff, Nat.reduceAdd, Nat.reduceSub, Nat.reduceMul, Nat.reduceLT, Int.reduceLT, Int.reduceLE, Int.reduceAdd, Int.reduceSub, Int.reduceMul, Int.reduceToNat, Int.reduceNeg, Int.reduceEq, Nat.reducePow, Int.reducePow, Nat.reduceEqDiff, decide_true, decide_false, reduceIte, reduceCtorEq, Int.reduceBEq, Int.reduceBNe, bne_self_eq_false, Int.cast_ofNat_Int, Bool.not_true, Bool.not_false, IntKind.bits]
  refine rread_a ha ?_
  unfold whichL at h
  generalize recL a = x at h ⊢
  obtain ⟨n, d, e⟩ := x
  simp only [recV, go_sem, Nat.reduceLeDiff, Nat.reduceAdd, Nat.reduceSub, Nat.reduceMul, Nat.reduceLT, Int.reduceLT, Int.reduceLE, Int.reduceAdd, Int.reduceSub, Int.reduceMul, Int.reduceToNat, Int.reduceNeg, Int.reduceEq, Nat.reducePow, Int.reducePow, Nat.reduceEqDiff, decide_true, decide_false, reduceIte, reduceCtorEq, Int.reduceBEq, Int.reduceBNe, bne_self_eq_false, Int.cast_ofNat_Int, Bool.not_true, Bool.not_false, IntKind.bits]
  refine rread_a hb ?_
  generalize recL b = x at h ⊢
  obtain ⟨m, f, g⟩ := x
  simp only [recV, go_sem, Nat.reduceLeDiff, Nat.reduceAdd, Nat.reduceSub, Nat.reduceMul, Nat.reduceLT, Int.reduceLT, Int.reduceLE, Int.reduceAdd, Int.reduceSub, Int.reduceMul, Int.reduceToNat, Int.reduceNeg, Int.reduceEq, Nat.reducePow, Int.reducePow, Nat.reduceEqDiff, decide_true, decide_false, reduceIte, reduceCtorEq, Int.reduceBEq, Int.reduceBNe, bne_self_eq_false, Int.cast_ofNat_Int, Bool.not_true, Bool.not_false, IntKind.bits]
  refine grd_split (fun h1 => ?_) (fun h1 => ?_)
  · have h2 : g = 0 := by simpa using h1
    subst h2
    simp only [go_sem, Nat.reduceLeDiff, Nat.reduceAdd, Nat.reduceSub, Nat.reduceMul, Nat.reduceLT, Int.reduceLT, Int.reduceLE, Int.reduceAdd, Int.reduceSub, Int.reduceMul, Int.reduceToNat, Int.reduceNeg, Int.reduceEq, Nat.reducePow, Int.reducePow, Nat.reduceEqDiff, decide_true, decide_false, reduceIte, reduceCtorEq, Int.reduceBEq, Int.reduceBNe, bne_self_eq_false, Int.cast_ofNat_Int, Bool.not_true, Bool.not_false, IntKind.bits]
    refine grd_split (fun h3 => ?_) (fun h3 => ?_)
    · have h4 : ¬ e = 0 := by simpa using h3
      simp only [h3, go_sem, Nat.reduceLeDiff, Nat.reduceAdd, Nat.reduceSub, Nat.reduceMul, Nat.reduceLT, Int.reduceLT, Int.reduceLE, Int.reduceAdd, Int.reduceSub, Int.reduceMul, Int.reduceToNat, Int.reduceNeg, Int.reduceEq, Nat.reducePow, Int.reducePow, Nat.reduceEqDiff, decide_true, decide_false, reduceIte, reduceCtorEq, Int.reduceBEq, Int.reduceBNe, bne_self_eq_false, Int.cast_ofNat_Int, Bool.not_true, Bool.not_false, IntKind.bits]
      exact aret_plain hs (under_which _ _ _ _) (by simpa [h4, whichV] using h)
    · have h4 : e = 0 := by simpa using h3
      subst h4
      simp only [go_sem, Nat.reduceLeDiff, Nat.reduceAdd, Nat.reduceSub, Nat.reduceMul, Nat.reduceLT, Int.reduceLT, Int.reduceLE, Int.reduceAdd, Int.reduceSub, Int.reduceMul, Int.reduceToNat, Int.reduceNeg, Int.reduceEq, Nat.reducePow, Int.reducePow, Nat.reduceEqDiff, decide_true, decide_false, reduceIte, reduceCtorEq, Int.reduceBEq, Int.reduceBNe, bne_self_eq_false, Int.cast_ofNat_Int, Bool.not_true, Bool.not_false, IntKind.bits]
      refine rnewer_a ?_
      simp only [go_sem, Nat.reduceLeDiff, Nat.reduceAdd, Nat.reduceSub, Nat.reduceMul, Nat.reduceLT, Int.reduceLT, Int.reduceLE, Int.reduceAdd, Int.reduceSub, Int.reduceMul, Int.reduceToNat, Int.reduceNeg, Int.reduceEq, Nat.reducePow, Int.reducePow, Nat.reduceEqDiff, decide_true, decide_false, reduceIte, reduceCtorEq, Int.reduceBEq, Int.reduceBNe, bne_self_eq_false, Int.cast_ofNat_Int, Bool.not_true, Bool.not_false, IntKind.bits]
      refine cnd_split (fun h5 => ?_) (fun h5 => ?_)
      · simp only [go_sem, Nat.reduceLeDiff, Nat.reduceAdd, Nat.reduceSub, Nat.reduceMul, Nat.reduceLT, Int.reduceLT, Int.reduceLE, Int.reduceAdd, Int.reduceSub, Int.reduceMul, Int.reduceToNat, Int.reduceNeg, Int.reduceEq, Nat.reducePow, Int.reducePow, Nat.reduceEqDiff, decide_true, decide_false, reduceIte, reduceCtorEq, Int.reduceBEq, Int.reduceBNe, bne_self_eq_false, Int.cast_ofNat_Int, Bool.not_true, Bool.not_false, IntKind.bits]
        exact aret_plain hs (under_which _ _ _ _) (by simpa [h5, whichV] using h)
      · simp only [go_sem, Nat.reduceLeDiff, Nat.reduceAdd, Nat.reduceSub, Nat.reduceMul, Nat.reduceLT, Int.reduceLT, Int.reduceLE, Int.reduceAdd, Int.reduceSub, Int.reduceMul, Int.reduceToNat, Int.reduceNeg, Int.reduceEq, Nat.reducePow, Int.reducePow, Nat.reduceEqDiff, decide_true, decide_false, reduceIte, reduceCtorEq, Int.reduceBEq, Int.reduceBNe, bne_self_eq_false, Int.cast_ofNat_Int, Bool.not_true, Bool.not_false, IntKind.bits]
        exact aret_plain hs (under_which _ _ _ _) (by simpa [h5, whichV] using h)
  · have h2 : ¬ g = 0 := by simpa using h1
    simp only [h1, go_sem, Nat.reduceLeDiff, Nat.reduceAdd, Nat.reduceSub, Nat.reduceMul, Nat.reduceLT, Int.reduceLT, Int.reduceLE, Int.reduceAdd, Int.reduceSub, Int.reduceMul, Int.reduceToNat, Int.reduceNeg, Int.reduceEq, Nat.reducePow, Int.reducePow, Nat.reduceEqDiff, decide_true, decide_false, reduceIte, reduceCtorEq, Int.reduceBEq, Int.reduceBNe, bne_self_eq_false, Int.cast_ofNat_Int, Bool.not_true, Bool.not_false, IntKind.bits]
    refine cnd_split (fun h3 => ?_) (fun h3 => ?_)
    · have h4 : e = 0 := by simpa using h3
      simp only [go_sem, Nat.reduceLeDiff, Nat.reduceAdd, Nat.reduceSub, Nat.reduceMul, Nat.reduceLT, Int.reduceLT, Int.reduceLE, Int.reduceAdd, Int.reduceSub, Int.reduceMul, Int.reduceToNat, Int.reduceNeg, Int.reduceEq, Nat.reducePow, Int.reducePow, Nat.reduceEqDiff, decide_true, decide_false, reduceIte, reduceCtorEq, Int.reduceBEq, Int.reduceBNe, bne_self_eq_false, Int.cast_ofNat_Int, Bool.not_true, Bool.not_false, IntKind.bits]
      exact aret_plain hs (under_which _ _ _ _) (by simpa [h2, h4, whichV] using h)
    · have h4 : ¬ e = 0 := by simpa using h3
      simp only [go_sem, Nat.reduceLeDiff, Nat.reduceAdd, Nat.reduceSub, Nat.reduceMul, Nat.reduceLT, Int.reduceLT, Int.reduceLE, Int.reduceAdd, Int.reduceSub, Int.reduceMul, Int.reduceToNat, Int.reduceNeg, Int.reduceEq, Nat.reducePow, Int.reducePow, Nat.reduceEqDiff, decide_true, decide_false, reduceIte, reduceCtorEq, Int.reduceBEq, Int.reduceBNe, bne_self_eq_false, Int.cast_ofNat_Int, Bool.not_true, Bool.not_false, IntKind.bits]
      exact aret_plain hs (under_which _ _ _ _) (by simpa [h2, h4, whichV] using h)
def targetL (a b : List UInt8) : Int × Int := if (whichL a b).1 = -1 then (0, 1) else (1 - (whichL a b).1, nextN (whichL a b).2.1)
def targetV (x : Int × Int) : AV := .tup [.int .i64 x.1, .int .i64 x.2]
theorem under_ii (n : Nat) (a b : Int) : (AV.tup [.int .i64 a, .int .i64 b]).under n := .tup _ (fun c hc => by
  simp only [List.mem_cons, List.not_mem_nil, or_false] at hc
  rcases hc with rfl | rfl <;> exact .int _ _)
theorem which_is (a b : List UInt8) : (whichL a b).1 = -1 ∨ (whichL a b).1 = 0 ∨ (whichL a b).1 = 1 := by
  unfold whichL
  split
  · exact .inr (.inr rfl)
  · split
    · exact .inr (.inl rfl)
    · exact .inl rfl
theorem target_a {a b : List UInt8} {H : AHeap} {K : AV → AHeap → Prop} (ha : a.length ≤ 100000) (hb : b.length ≤ 100000) (h : K (targetV (targetL a b)) H) : (ACalls Try.prog) 42 [.str (B a), .str (B b)] H K := by
  refine acalls_go mo t42 (fun hs hu => ?_)
  simp only [c42, go_sem, Nat.reduceLeDiff, Nat.reduceAdd, Nat.reduceSub, Nat.reduceMul, Nat.reduceLT, Int.reduceLT, Int.reduceLE, Int.reduceAdd, Int.reduceSub, Int.reduceMul, Int.reduceToNat, Int.reduceNeg, Int.reduceEq, Nat.reducePow, Int.reducePow, Nat.reduceEqDiff, decide_true, decide_false, reduceIte, reduceCtorEq, Int.reduceBEq, Int.reduceBNe, bne_self_eq_false, Int.cast_ofNat_Int, Bool.not_true, Bool.not_false, IntKind.bits]
  refine which_a ha hb ?_
  have hw := which_is a b
  unfold targetL at h
  generalize whichL a b = x at h hw ⊢
  obtain ⟨k, n, d⟩ := x
  simp only [whichV, go_sem, Nat.reduceLeDiff, Nat.reduceAdd, Nat.reduceSub, Nat.reduceMul, Nat.reduceLT, Int.reduceLT, Int.reduceLE, Int.reduceAdd, Int.reduceSub, Int.reduceMul, Int.reduceToNat, Int.reduceNeg, Int.reduceEq, Nat.reducePow, Int.reducePow, Nat.reduceEqDiff, decide_true, decide_false, reduceIte, reduceCtorEq, Int.reduceBEq, Int.reduceBNe, bne_self_eq_false, Int.cast_ofNat_Int, Bool.not_true, Bool.not_false, IntKind.bits]
  rcases hw with hw | hw | hw <;> (simp only at hw; subst hw)
  · simp only [go_sem, Nat.reduceLeDiff, Nat.reduceAdd, Nat.reduceSub, Nat.reduceMul, Nat.reduceLT, Int.reduceLT, Int.reduceLE, Int.reduceAdd, Int.reduceSub, Int.reduceMul, Int.reduceToNat, Int.reduceNeg, Int.reduceEq, Nat.reducePow, Int.reducePow, Nat.reduceEqDiff, decide_true, decide_false, reduceIte, reduceCtorEq, Int.reduceBEq, Int.reduceBNe, bne_self_eq_false, Int.cast_ofNat_Int, Bool.not_true, Bool.not_false, IntKind.bits]
    exact aret_plain hs (under_ii _ _ _) h
  · simp (disch := omega) only [wi64, go_sem, Nat.reduceLeDiff, Nat.reduceAdd, Nat.reduceSub, Nat.reduceMul, Nat.reduceLT, Int.reduceLT, Int.reduceLE, Int.reduceAdd, Int.reduceSub, Int.reduceMul, Int.reduceToNat, Int.reduceNeg, Int.reduceEq, Nat.reducePow, Int.reducePow, Nat.reduceEqDiff, decide_true, decide_false, reduceIte, reduceCtorEq, Int.reduceBEq, Int.reduceBNe, bne_self_eq_false, Int.cast_ofNat_Int, Bool.not_true, Bool.not_false, IntKind.bits]
    refine next_a ?_
    simp only [go_sem, Nat.reduceLeDiff, Nat.reduceAdd, Nat.reduceSub, Nat.reduceMul, Nat.reduceLT, Int.reduceLT, Int.reduceLE, Int.reduceAdd, Int.reduceSub, Int.reduceMul, Int.reduceToNat, Int.reduceNeg, Int.reduceEq, Nat.reducePow, Int.reducePow, Nat.reduceEqDiff, decide_true, decide_false, reduceIte, reduceCtorEq, Int.reduceBEq, Int.reduceBNe, bne_self_eq_false, Int.cast_ofNat_Int, Bool.not_true, Bool.not_false, IntKind.bits]
    exact aret_plain hs (under_ii _ _ _) h
  · simp (disch := omega) only [wi64, go_sem, Nat.reduceLeDiff, Nat.reduceAdd, Nat.reduceSub, Nat.reduceMul, Nat.reduceLT, Int.reduceLT, Int.reduceLE, Int.reduceAdd, Int.reduceSub, Int.reduceMul, Int.reduceToNat, Int.reduceNeg, Int.reduceEq, Nat.reducePow, Int.reducePow, Nat.reduceEqDiff, decide_true, decide_false, reduceIte, reduceCtorEq, Int.reduceBEq, Int.reduceBNe, bne_self_eq_false, Int.cast_ofNat_Int, Bool.not_true, Bool.not_false, IntKind.bits]
    refine next_a ?_
    simp only [go_sem, Nat.reduceLeDiff, Nat.reduceAdd, Nat.reduceSub, Nat.reduceMul, Nat.reduceLT, Int.reduceLT, Int.reduceLE, Int.reduceAdd, Int.reduceSub, Int.reduceMul, Int.reduceToNat, Int.reduceNeg, Int.reduceEq, Nat.reducePow, Int.reducePow, Nat.reduceEqDiff, decide_true, decide_false, reduceIte, reduceCtorEq, Int.reduceBEq, Int.reduceBNe, bne_self_eq_false, Int.cast_ofNat_Int, Bool.not_true, Bool.not_false, IntKind.bits]
    exact aret_plain hs (under_ii _ _ _) h
theorem rtarget_a {a b : List UInt8} {H : AHeap} {K : AV → AHeap → Prop} (ha : a.length ≤ 100000) (hb : b.length ≤ 100000) (h : K (targetV (targetL a b)) H) : (ACalls Try.prog) 43 [.str (B a), .str (B b)] H K := by
  refine acalls_go mo t43 (fun hs hu => ?_)
  simp only [c43, go_sem, Nat.reduceLeDiff, Nat.reduceAdd, Nat.reduceSub, Nat.reduceMul, Nat.reduceLT, Int.reduceLT, Int.reduceLE, Int.reduceAdd, Int.reduceSub, Int.reduceMul, Int.reduceToNat, Int.reduceNeg, Int.reduceEq, Nat.reducePow, Int.reducePow, Nat.reduceEqDiff, decide_true, decide_false, reduceIte, reduceCtorEq, Int.reduceBEq, Int.reduceBNe, bne_self_eq_false, Int.cast_ofNat_Int, Bool.not_true, Bool.not_false, IntKind.bits]
  refine rwhich_a ha hb ?_
  have hw := which_is a b
  unfold targetL at h
  generalize whichL a b = x at h hw ⊢
  obtain ⟨k, n, d⟩ := x
  simp only [whichV, go_sem, Nat.reduceLeDiff, Nat.reduceAdd, Nat.reduceSub, Nat.reduceMul, Nat.reduceLT, Int.reduceLT, Int.reduceLE, Int.reduceAdd, Int.reduceSub, Int.reduceMul, Int.reduceToNat, Int.reduceNeg, Int.reduceEq, Nat.reducePow, Int.reducePow, Nat.reduceEqDiff, decide_true, decide_false, reduceIte, reduceCtorEq, Int.reduceBEq, Int.reduceBNe, bne_self_eq_false, Int.cast_ofNat_Int, Bool.not_true, Bool.not_false, IntKind.bits]
  rcases hw with hw | hw | hw <;> (simp only at hw; subst hw)
  · simp only [go_sem, Nat.reduceLeDiff, Nat.reduceAdd, Nat.reduceSub, Nat.reduceMul, Nat.reduceLT, Int.reduceLT, Int.reduceLE, Int.reduceAdd, Int.reduceSub, Int.reduceMul, Int.reduceToNat, Int.reduceNeg, Int.reduceEq, Nat.reducePow, Int.reducePow, Nat.reduceEqDiff, decide_true, decide_false, reduceIte, reduceCtorEq, Int.reduceBEq, Int.reduceBNe, bne_self_eq_false, Int.cast_ofNat_Int, Bool.not_true, Bool.not_false, IntKind.bits]
    exact aret_plain hs (under_ii _ _ _) h
  · simp (disch := omega) only [wi64, go_sem, Nat.reduceLeDiff, Nat.reduceAdd, Nat.reduceSub, Nat.reduceMul, Nat.reduceLT, Int.reduceLT, Int.reduceLE, Int.reduceAdd, Int.reduceSub, Int.reduceMul, Int.reduceToNat, Int.reduceNeg, Int.reduceEq, Nat.reducePow, Int.reducePow, Nat.reduceEqDiff, decide_true, decide_false, reduceIte, reduceCtorEq, Int.reduceBEq, Int.reduceBNe, bne_self_eq_false, Int.cast_ofNat_Int, Bool.not_true, Bool.not_false, IntKind.bits]
    refine rnext_a ?_
    simp only [go_sem, Nat.reduceLeDiff, Nat.reduceAdd, Nat.reduceSub, Nat.reduceMul, Nat.reduceLT, Int.reduceLT, Int.reduceLE, Int.reduceAdd, Int.reduceSub, Int.reduceMul, Int.reduceToNat, Int.reduceNeg, Int.reduceEq, Nat.reducePow, Int.reducePow, Nat.reduceEqDiff, decide_true, decide_false, reduceIte, reduceCtorEq, Int.reduceBEq, Int.reduceBNe, bne_self_eq_false, Int.cast_ofNat_Int, Bool.not_true, Bool.not_false, IntKind.bits]
    exact aret_plain hs (under_ii _ _ _) h
  · simp (disch := omega) only [wi64, go_sem, Nat.reduceLeDiff, Nat.reduceAdd, Nat.reduceSub, Nat.reduceMul, Nat.reduceLT, Int.reduceLT, Int.reduceLE, Int.reduceAdd, Int.reduceSub, Int.reduceMul, Int.reduceToNat, Int.reduceNeg, Int.reduceEq, Nat.reducePow, Int.reducePow, Nat.reduceEqDiff, decide_true, decide_false, reduceIte, reduceCtorEq, Int.reduceBEq, Int.reduceBNe, bne_self_eq_false, Int.cast_ofNat_Int, Bool.not_true, Bool.not_false, IntKind.bits]
    refine rnext_a ?_
    simp only [go_sem, Nat.reduceLeDiff, Nat.reduceAdd, Nat.reduceSub, Nat.reduceMul, Nat.reduceLT, Int.reduceLT, Int.reduceLE, Int.reduceAdd, Int.reduceSub, Int.reduceMul, Int.reduceToNat, Int.reduceNeg, Int.reduceEq, Nat.reducePow, Int.reducePow, Nat.reduceEqDiff, decide_true, decide_false, reduceIte, reduceCtorEq, Int.reduceBEq, Int.reduceBNe, bne_self_eq_false, Int.cast_ofNat_Int, Bool.not_true, Bool.not_false, IntKind.bits]
    exact aret_plain hs (under_ii _ _ _) h
theorem body_len (n : Int) (d : List UInt8) : (bodyL n d).1.length ≤ 508 := by
  unfold bodyL
  split
  · simp
  · split
    · simp
    · simp [four_len]; omega
theorem sector_a {n : Int} {d : List UInt8} {H : AHeap} {K : AV → AHeap → Prop} (h : K (.str (B (penv ++ (bodyL n d).1))) H) : (ACalls Try.prog) 44 [.agg [.int .i64 n, .str (B d)]] H K := by
  refine acalls_go mo t44 (fun hs hu => ?_)
  simp only [c44, go_sem, Nat.reduceLeDiff, Nat.reduceAdd, Nat.reduceSub, Nat.reduceMul, Nat.reduceLT, Int.reduceLT, Int.reduceLE, Int.reduceAdd, Int.reduceSub, Int.reduceMul, Int.reduceToNat, Int.reduceNeg, Int.reduceEq, Nat.reducePow, Int.reducePow, Nat.reduceEqDiff, decide_true, decide_false, reduceIte, reduceCtorEq, Int.reduceBEq, Int.reduceBNe, bne_self_eq_false, Int.cast_ofNat_Int, Bool.not_true, Bool.not_false, IntKind.bits]
  refine rbody_a ?_
  simp only [bodyV, go_sem, Nat.reduceLeDiff, Nat.reduceAdd, Nat.reduceSub, Nat.reduceMul, Nat.reduceLT, Int.reduceLT, Int.reduceLE, Int.reduceAdd, Int.reduceSub, Int.reduceMul, Int.reduceToNat, Int.reduceNeg, Int.reduceEq, Nat.reducePow, Int.reducePow, Nat.reduceEqDiff, decide_true, decide_false, reduceIte, reduceCtorEq, Int.reduceBEq, Int.reduceBNe, bne_self_eq_false, Int.cast_ofNat_Int, Bool.not_true, Bool.not_false, IntKind.bits]
  have hlen := body_len n d
  have h4 : 4 + (bodyL n d).1.length ≤ 9223372036854775807 := by omega
  simp only [h4, go_sem, Nat.reduceLeDiff, Nat.reduceAdd, Nat.reduceSub, Nat.reduceMul, Nat.reduceLT, Int.reduceLT, Int.reduceLE, Int.reduceAdd, Int.reduceSub, Int.reduceMul, Int.reduceToNat, Int.reduceNeg, Int.reduceEq, Nat.reducePow, Int.reducePow, Nat.reduceEqDiff, decide_true, decide_false, reduceIte, reduceCtorEq, Int.reduceBEq, Int.reduceBNe, bne_self_eq_false, Int.cast_ofNat_Int, Bool.not_true, Bool.not_false, IntKind.bits]
  exact aret_plain hs (.str _) h
theorem aw1 : whichL (penv ++ (bodyL 5 [120]).1) (penv ++ (bodyL 6 [121]).1) = (1, 6, [121]) := by kernel_rfl
theorem aw2 : targetL (penv ++ (bodyL 5 [120]).1) (penv ++ (bodyL 6 [121]).1) = (0, 7) := by kernel_rfl
theorem aw3 : targetL [] [] = (0, 1) := by kernel_rfl
theorem aw4 : whichL [] [] = (-1, 0, []) := by kernel_rfl
theorem awake22_a {H : AHeap} {K : AV → AHeap → Prop} (h : K (.bool true) H) : (ACalls Try.prog) 39 [] H K := by
  refine acalls_go mo t39 (fun hs hu => ?_)
  simp only [c39, go_sem, Nat.reduceLeDiff, Nat.reduceAdd, Nat.reduceSub, Nat.reduceMul, Nat.reduceLT, Int.reduceLT, Int.reduceLE, Int.reduceAdd, Int.reduceSub, Int.reduceMul, Int.reduceToNat, Int.reduceNeg, Int.reduceEq, Nat.reducePow, Int.reducePow, Nat.reduceEqDiff, decide_true, decide_false, reduceIte, reduceCtorEq, Int.reduceBEq, Int.reduceBNe, bne_self_eq_false, Int.cast_ofNat_Int, Bool.not_true, Bool.not_false, IntKind.bits]
  refine sector_a ?_
  simp only [go_sem, Nat.reduceLeDiff, Nat.reduceAdd, Nat.reduceSub, Nat.reduceMul, Nat.reduceLT, Int.reduceLT, Int.reduceLE, Int.reduceAdd, Int.reduceSub, Int.reduceMul, Int.reduceToNat, Int.reduceNeg, Int.reduceEq, Nat.reducePow, Int.reducePow, Nat.reduceEqDiff, decide_true, decide_false, reduceIte, reduceCtorEq, Int.reduceBEq, Int.reduceBNe, bne_self_eq_false, Int.cast_ofNat_Int, Bool.not_true, Bool.not_false, IntKind.bits]
  refine sector_a ?_
  have l1 := body_len 5 [120]
  have l2 := body_len 6 [121]
  have lp : penv.length = 4 := rfl
  simp only [go_sem, Nat.reduceLeDiff, Nat.reduceAdd, Nat.reduceSub, Nat.reduceMul, Nat.reduceLT, Int.reduceLT, Int.reduceLE, Int.reduceAdd, Int.reduceSub, Int.reduceMul, Int.reduceToNat, Int.reduceNeg, Int.reduceEq, Nat.reducePow, Int.reducePow, Nat.reduceEqDiff, decide_true, decide_false, reduceIte, reduceCtorEq, Int.reduceBEq, Int.reduceBNe, bne_self_eq_false, Int.cast_ofNat_Int, Bool.not_true, Bool.not_false, IntKind.bits]
  refine which_a (by simp [lp]; omega) (by simp [lp]; omega) ?_
  simp only [aw1, whichV, go_sem, Nat.reduceLeDiff, Nat.reduceAdd, Nat.reduceSub, Nat.reduceMul, Nat.reduceLT, Int.reduceLT, Int.reduceLE, Int.reduceAdd, Int.reduceSub, Int.reduceMul, Int.reduceToNat, Int.reduceNeg, Int.reduceEq, Nat.reducePow, Int.reducePow, Nat.reduceEqDiff, decide_true, decide_false, reduceIte, reduceCtorEq, Int.reduceBEq, Int.reduceBNe, bne_self_eq_false, Int.cast_ofNat_Int, Bool.not_true, Bool.not_false, IntKind.bits]
  refine target_a (by simp [lp]; omega) (by simp [lp]; omega) ?_
  simp only [aw2, targetV, go_sem, Nat.reduceLeDiff, Nat.reduceAdd, Nat.reduceSub, Nat.reduceMul, Nat.reduceLT, Int.reduceLT, Int.reduceLE, Int.reduceAdd, Int.reduceSub, Int.reduceMul, Int.reduceToNat, Int.reduceNeg, Int.reduceEq, Nat.reducePow, Int.reducePow, Nat.reduceEqDiff, decide_true, decide_false, reduceIte, reduceCtorEq, Int.reduceBEq, Int.reduceBNe, bne_self_eq_false, Int.cast_ofNat_Int, Bool.not_true, Bool.not_false, IntKind.bits]
  refine target_a (by simp) (by simp) ?_
  simp only [aw3, targetV, go_sem, Nat.reduceLeDiff, Nat.reduceAdd, Nat.reduceSub, Nat.reduceMul, Nat.reduceLT, Int.reduceLT, Int.reduceLE, Int.reduceAdd, Int.reduceSub, Int.reduceMul, Int.reduceToNat, Int.reduceNeg, Int.reduceEq, Nat.reducePow, Int.reducePow, Nat.reduceEqDiff, decide_true, decide_false, reduceIte, reduceCtorEq, Int.reduceBEq, Int.reduceBNe, bne_self_eq_false, Int.cast_ofNat_Int, Bool.not_true, Bool.not_false, IntKind.bits]
  refine which_a (by simp) (by simp) ?_
  simp only [aw4, whichV, go_sem, Nat.reduceLeDiff, Nat.reduceAdd, Nat.reduceSub, Nat.reduceMul, Nat.reduceLT, Int.reduceLT, Int.reduceLE, Int.reduceAdd, Int.reduceSub, Int.reduceMul, Int.reduceToNat, Int.reduceNeg, Int.reduceEq, Nat.reducePow, Int.reducePow, Nat.reduceEqDiff, decide_true, decide_false, reduceIte, reduceCtorEq, Int.reduceBEq, Int.reduceBNe, bne_self_eq_false, Int.cast_ofNat_Int, Bool.not_true, Bool.not_false, IntKind.bits]
  exact aret_plain hs (.bool _) h
theorem pickIs_a {a b : List UInt8} {H : AHeap} {K : AV → AHeap → Prop} (h : K (.bool true) H) : (ACalls Try.prog) 11 [.str (B a), .str (B b)] H K := by
  refine acalls_go mo t11 (fun hs hu => ?_)
  simp only [c11, go_sem, Nat.reduceLeDiff, Nat.reduceAdd, Nat.reduceSub, Nat.reduceMul, Nat.reduceLT, Int.reduceLT, Int.reduceLE, Int.reduceAdd, Int.reduceSub, Int.reduceMul, Int.reduceToNat, Int.reduceNeg, Int.reduceEq, Nat.reducePow, Int.reducePow, Nat.reduceEqDiff, decide_true, decide_false, reduceIte, reduceCtorEq, Int.reduceBEq, Int.reduceBNe, bne_self_eq_false, Int.cast_ofNat_Int, Bool.not_true, Bool.not_false, IntKind.bits]
  refine grd_split (fun h1 => ?_) (fun h1 => ?_)
  · simp only [h1, go_sem, Nat.reduceLeDiff, Nat.reduceAdd, Nat.reduceSub, Nat.reduceMul, Nat.reduceLT, Int.reduceLT, Int.reduceLE, Int.reduceAdd, Int.reduceSub, Int.reduceMul, Int.reduceToNat, Int.reduceNeg, Int.reduceEq, Nat.reducePow, Int.reducePow, Nat.reduceEqDiff, decide_true, decide_false, reduceIte, reduceCtorEq, Int.reduceBEq, Int.reduceBNe, bne_self_eq_false, Int.cast_ofNat_Int, Bool.not_true, Bool.not_false, IntKind.bits]
    refine awake22_a ?_
    simp only [go_sem, Nat.reduceLeDiff, Nat.reduceAdd, Nat.reduceSub, Nat.reduceMul, Nat.reduceLT, Int.reduceLT, Int.reduceLE, Int.reduceAdd, Int.reduceSub, Int.reduceMul, Int.reduceToNat, Int.reduceNeg, Int.reduceEq, Nat.reducePow, Int.reducePow, Nat.reduceEqDiff, decide_true, decide_false, reduceIte, reduceCtorEq, Int.reduceBEq, Int.reduceBNe, bne_self_eq_false, Int.cast_ofNat_Int, Bool.not_true, Bool.not_false, IntKind.bits]
    exact aret_plain hs (.bool _) h
  have ha : a.length ≤ 100000 := by simp at h1; omega
  simp only [h1, go_sem, Nat.reduceLeDiff, Nat.reduceAdd, Nat.reduceSub, Nat.reduceMul, Nat.reduceLT, Int.reduceLT, Int.reduceLE, Int.reduceAdd, Int.reduceSub, Int.reduceMul, Int.reduceToNat, Int.reduceNeg, Int.reduceEq, Nat.reducePow, Int.reducePow, Nat.reduceEqDiff, decide_true, decide_false, reduceIte, reduceCtorEq, Int.reduceBEq, Int.reduceBNe, bne_self_eq_false, Int.cast_ofNat_Int, Bool.not_true, Bool.not_false, IntKind.bits]
  refine cnd_split (fun h2 => ?_) (fun h2 => ?_)
  · simp only [h2, go_sem, Nat.reduceLeDiff, Nat.reduceAdd, Nat.reduceSub, Nat.reduceMul, Nat.reduceLT, Int.reduceLT, Int.reduceLE, Int.reduceAdd, Int.reduceSub, Int.reduceMul, Int.reduceToNat, Int.reduceNeg, Int.reduceEq, Nat.reducePow, Int.reducePow, Nat.reduceEqDiff, decide_true, decide_false, reduceIte, reduceCtorEq, Int.reduceBEq, Int.reduceBNe, bne_self_eq_false, Int.cast_ofNat_Int, Bool.not_true, Bool.not_false, IntKind.bits]
    refine awake22_a ?_
    simp only [go_sem, Nat.reduceLeDiff, Nat.reduceAdd, Nat.reduceSub, Nat.reduceMul, Nat.reduceLT, Int.reduceLT, Int.reduceLE, Int.reduceAdd, Int.reduceSub, Int.reduceMul, Int.reduceToNat, Int.reduceNeg, Int.reduceEq, Nat.reducePow, Int.reducePow, Nat.reduceEqDiff, decide_true, decide_false, reduceIte, reduceCtorEq, Int.reduceBEq, Int.reduceBNe, bne_self_eq_false, Int.cast_ofNat_Int, Bool.not_true, Bool.not_false, IntKind.bits]
    exact aret_plain hs (.bool _) h
  have hb : b.length ≤ 100000 := by simp at h2; omega
  simp only [h2, go_sem, Nat.reduceLeDiff, Nat.reduceAdd, Nat.reduceSub, Nat.reduceMul, Nat.reduceLT, Int.reduceLT, Int.reduceLE, Int.reduceAdd, Int.reduceSub, Int.reduceMul, Int.reduceToNat, Int.reduceNeg, Int.reduceEq, Nat.reducePow, Int.reducePow, Nat.reduceEqDiff, decide_true, decide_false, reduceIte, reduceCtorEq, Int.reduceBEq, Int.reduceBNe, bne_self_eq_false, Int.cast_ofNat_Int, Bool.not_true, Bool.not_false, IntKind.bits]
  refine which_a ha hb ?_
  simp only [whichV, go_sem, Nat.reduceLeDiff, Nat.reduceAdd, Nat.reduceSub, Nat.reduceMul, Nat.reduceLT, Int.reduceLT, Int.reduceLE, Int.reduceAdd, Int.reduceSub, Int.reduceMul, Int.reduceToNat, Int.reduceNeg, Int.reduceEq, Nat.reducePow, Int.reducePow, Nat.reduceEqDiff, decide_true, decide_false, reduceIte, reduceCtorEq, Int.reduceBEq, Int.reduceBNe, bne_self_eq_false, Int.cast_ofNat_Int, Bool.not_true, Bool.not_false, IntKind.bits]
  refine rwhich_a ha hb ?_
  simp only [whichV, go_sem, Nat.reduceLeDiff, Nat.reduceAdd, Nat.reduceSub, Nat.reduceMul, Nat.reduceLT, Int.reduceLT, Int.reduceLE, Int.reduceAdd, Int.reduceSub, Int.reduceMul, Int.reduceToNat, Int.reduceNeg, Int.reduceEq, Nat.reducePow, Int.reducePow, Nat.reduceEqDiff, decide_true, decide_false, reduceIte, reduceCtorEq, Int.reduceBEq, Int.reduceBNe, bne_self_eq_false, Int.cast_ofNat_Int, Bool.not_true, Bool.not_false, IntKind.bits]
  refine target_a ha hb ?_
  simp only [targetV, go_sem, Nat.reduceLeDiff, Nat.reduceAdd, Nat.reduceSub, Nat.reduceMul, Nat.reduceLT, Int.reduceLT, Int.reduceLE, Int.reduceAdd, Int.reduceSub, Int.reduceMul, Int.reduceToNat, Int.reduceNeg, Int.reduceEq, Nat.reducePow, Int.reducePow, Nat.reduceEqDiff, decide_true, decide_false, reduceIte, reduceCtorEq, Int.reduceBEq, Int.reduceBNe, bne_self_eq_false, Int.cast_ofNat_Int, Bool.not_true, Bool.not_false, IntKind.bits]
  refine rtarget_a ha hb ?_
  simp only [targetV, go_sem, Nat.reduceLeDiff, Nat.reduceAdd, Nat.reduceSub, Nat.reduceMul, Nat.reduceLT, Int.reduceLT, Int.reduceLE, Int.reduceAdd, Int.reduceSub, Int.reduceMul, Int.reduceToNat, Int.reduceNeg, Int.reduceEq, Nat.reducePow, Int.reducePow, Nat.reduceEqDiff, decide_true, decide_false, reduceIte, reduceCtorEq, Int.reduceBEq, Int.reduceBNe, bne_self_eq_false, Int.cast_ofNat_Int, Bool.not_true, Bool.not_false, IntKind.bits]
  refine awake22_a ?_
  simp only [go_sem, Nat.reduceLeDiff, Nat.reduceAdd, Nat.reduceSub, Nat.reduceMul, Nat.reduceLT, Int.reduceLT, Int.reduceLE, Int.reduceAdd, Int.reduceSub, Int.reduceMul, Int.reduceToNat, Int.reduceNeg, Int.reduceEq, Nat.reducePow, Int.reducePow, Nat.reduceEqDiff, decide_true, decide_false, reduceIte, reduceCtorEq, Int.reduceBEq, Int.reduceBNe, bne_self_eq_false, Int.cast_ofNat_Int, Bool.not_true, Bool.not_false, IntKind.bits]
  exact aret_plain hs (.bool _) h
theorem law_PickIs (a0 a1 : ByteArray) : (ACalls Try.prog) 11 [.str a0, .str a1] H0 (fun y _ => y = .bool true) := by
  rw [← B_of a0, ← B_of a1]
  exact pickIs_a rfl
end Go.Proofs.Ythpgppamdejjhaa.AL
