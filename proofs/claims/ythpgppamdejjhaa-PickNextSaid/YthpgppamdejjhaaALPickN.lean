/- The law PickNext told. -/
import Derived.Test.YthpgppamdejjhaaALPick
import Derived.Test.YthpgppamdejjhaaALRecMath
set_option linter.unusedSimpArgs false
set_option linter.unusedVariables false
set_option maxRecDepth 100000
namespace Go.Proofs.Ythpgppamdejjhaa.AL
open Go Go.Proofs Go.Proofs.Ythpgppamdejjhaa.G
attribute [local go_sem] go_seq go_skip go_region go_cond go_block go_exit go_ret nxt_nil nxt_code nxt_blk nxt_cut leave_nil leave_code leave_cut leave_blk rtn_nil rtn_code rtn_blk rtn_cut cnd_t cnd_f rgn_nil rgY_some rgY_none rgH_some rgP_some retTo_is rgV_func grd_und grd_tt grd_ff grd_tf grd_ft rgn_q rgn_alloc rgn_box rgn_store rgn_lit rgn_app rgn_copy rgn_mk rgn_s2b rgn_call rgn_callv rgn_c rgn_guard post_ret post_normal retY_some ares aresL ares1 AX.ev aput List.getD_cons_zero List.getD_cons_succ List.set_cons_zero List.set_cons_succ List.map_cons List.map_nil aq abin aint astr abeq aconv asame aextract alenS alenL aun apart aload afieldAddr afield aidxSl aidxPt aidxStr aidxArr alen abound asliceStr asliceSl abest anonil afill astore acells acopy litAll amk as2b anil nilOf aseq aeqs aeqv fits fit1 hp_next hp_push hp_get hp_set List.length_cons List.length_nil List.getElem?_cons_zero List.getElem?_cons_succ List.cons_append List.nil_append List.append_nil List.take_succ_cons List.take_zero List.drop_succ_cons List.drop_zero List.all_cons List.all_nil Option.map_some Option.some.injEq Bool.and_true Bool.true_and Bool.false_eq_true if_true if_false ite_true ite_false Bool.and_self true_and and_true and_self Nat.zero_add Nat.le_refl Int.toNat_natCast beq_self_eq_true eq_self tops_zero tops_succ Int.natCast_nonneg List.take_nil List.drop_nil Option.map_none flat_bool one_bool cells_bool flat_int one_int cells_int flat_str one_str cells_str flat_nilp one_nilp cells_nilp flat_ptr one_ptr cells_ptr flat_nils one_nils cells_nils flat_imm one_imm cells_imm flat_wr one_wr cells_wr flat_func one_func cells_func flat_nilf one_nilf cells_nilf flat_map one_map cells_map flat_nilm one_nilm cells_nilm flat_iface one_iface cells_iface flat_nili one_nili cells_nili flat_rd one_rd cells_rd flat_emp one_emp cells_emp flat_byteV one_byteV cells_byteV flat_agg cells_agg one_agg B_size B_list B_ext B_toList B_app List.take_length Int.le_refl
/-- A sector with a record; and without its mark. -/
def sec (n : Int) (d : List UInt8) : List UInt8 := penv ++ (bodyL n d).1
def unm (l : List UInt8) : List UInt8 := [255, 255, 255, 255] ++ l.drop 4
theorem sec_len {n : Int} {d : List UInt8} (h0 : 0 ≤ n) (h1 : n < 4294967296) (hd : d.length ≤ 496) : (sec n d).length = 16 + d.length := by
  unfold sec
  rw [body_ok h0 h1 hd]
  simp only [List.length_append, four_len]
  simp [penv]
  omega
theorem recL_sec {n : Int} {d : List UInt8} (h0 : 0 ≤ n) (h1 : n < 4294967296) (hd : d.length ≤ 496) : recL (sec n d) = (n, d, 0) := by
  have := recL_sector n d [] h0 h1 hd
  rwa [List.append_nil] at this
theorem recL_unm (l : List UInt8) (h : 16 ≤ l.length) : recL (unm l) = (0, [], 6) := recL_unmarked _ (by simp [unm]; omega) (by simp [unm, penv])
/-- With the target's sector put, and its mark taken away. -/
theorem next_told (a b data : List UInt8) (hd : data.length ≤ 496) :
    ((targetL a b).1 = 0 ∧ (whichL a b).1 ≠ 0 ∧ whichL (sec (targetL a b).2 data) b = (0, (targetL a b).2, data) ∧ whichL (unm (sec (targetL a b).2 data)) b = whichL a b) ∨
    ((targetL a b).1 = 1 ∧ (whichL a b).1 ≠ 1 ∧ whichL a (sec (targetL a b).2 data) = (1, (targetL a b).2, data) ∧ whichL a (unm (sec (targetL a b).2 data)) = whichL a b) := by
  have hlen : ∀ n : Int, 0 ≤ n → n < 4294967296 → 16 ≤ (sec n data).length := fun n h0 h1 => by rw [sec_len h0 h1 hd]; omega
  by_cases hb : (recL b).2.2 = 0 ∧ ((recL a).2.2 ≠ 0 ∨ newerB (recL b).1 (recL a).1 = true)
  · have hw : whichL a b = (1, (recL b).1, (recL b).2.1) := by unfold whichL; rw [if_pos hb]
    have ht : targetL a b = (0, nextN (recL b).1) := by unfold targetL; rw [hw]; rfl
    have hr := nextN_range (recL b).1
    left
    rw [ht, hw]
    refine ⟨rfl, by simp, ?_, ?_⟩
    · unfold whichL
      rw [recL_sec hr.1 hr.2 hd]
      simp [next_newer]
    · unfold whichL
      rw [recL_unm _ (hlen _ hr.1 hr.2)]
      simp [hb.1]
  · by_cases ha : (recL a).2.2 = 0
    · have hw : whichL a b = (0, (recL a).1, (recL a).2.1) := by unfold whichL; rw [if_neg hb, if_pos ha]
      have ht : targetL a b = (1, nextN (recL a).1) := by unfold targetL; rw [hw]; rfl
      have hr := nextN_range (recL a).1
      right
      rw [ht, hw]
      refine ⟨rfl, by simp, ?_, ?_⟩
      · unfold whichL
        rw [recL_sec hr.1 hr.2 hd]
        simp [newer_next]
      · unfold whichL
        rw [recL_unm _ (hlen _ hr.1 hr.2)]
        simp [ha]
    · have hw : whichL a b = (-1, 0, []) := by unfold whichL; rw [if_neg hb, if_neg ha]
      have ht : targetL a b = (0, 1) := by unfold targetL; rw [hw]; rfl
      have hg : ¬ (recL b).2.2 = 0 := fun e => hb ⟨e, .inl ha⟩
      left
      rw [ht, hw]
      refine ⟨rfl, by simp, ?_, ?_⟩
      · unfold whichL
        rw [recL_sec (by decide) (by decide) hd]
        simp [hg]
      · unfold whichL
        rw [recL_unm _ (hlen _ (by decide) (by decide))]
        simp [hg]
theorem target_range (a b : List UInt8) : 0 ≤ (targetL a b).2 ∧ (targetL a b).2 < 4294967296 := by
  unfold targetL
  split
  · simp
  · exact nextN_range _
theorem pickNext_a {a b data : List UInt8} {H : AHeap} {K : AV → AHeap → Prop} (h : K (.bool true) H) : (ACalls Try.prog) 12 [.str (B a), .str (B b), .str (B data)] H K := by
  refine acalls_go mo t12 (fun hs hu => ?_)
  simp only [c12, go_sem, Nat.reduceLeDiff, Nat.reduceAdd, Nat.reduceSub, Nat.reduceMul, Nat.reduceLT, Int.reduceLT, Int.reduceLE, Int.reduceAdd, Int.reduceSub, Int.reduceMul, Int.reduceToNat, Int.reduceNeg, Int.reduceEq, Nat.reducePow, Int.reducePow, Nat.reduceEqDiff, decide_true, decide_false, reduceIte, reduceCtorEq, Int.reduceBEq, Int.reduceBNe, bne_self_eq_false, Int.cast_ofNat_Int, Bool.not_true, Bool.not_false, IntKind.bits]
  refine grd_split (fun h1 => ?_) (fun h1 => ?_)
  · simp only [h1, go_sem, Nat.reduceLeDiff, Nat.reduceAdd, Nat.reduceSub, Nat.reduceMul, Nat.reduceLT, Int.reduceLT, Int.reduceLE, Int.reduceAdd, Int.reduceSub, Int.reduceMul, Int.reduceToNat, Int.reduceNeg, Int.reduceEq, Nat.reducePow, Int.reducePow, Nat.reduceEqDiff, decide_true, decide_false, reduceIte, reduceCtorEq, Int.reduceBEq, Int.reduceBNe, bne_self_eq_false, Int.cast_ofNat_Int, Bool.not_true, Bool.not_false, IntKind.bits]
    refine awake22_a ?_
    simp only [go_sem, Nat.reduceLeDiff, Nat.reduceAdd, Nat.reduceSub, Nat.reduceMul, Nat.reduceLT, Int.reduceLT, Int.reduceLE, Int.reduceAdd, Int.reduceSub, Int.reduceMul, Int.reduceToNat, Int.reduceNeg, Int.reduceEq, Nat.reducePow, Int.reducePow, Nat.reduceEqDiff, decide_true, decide_false, reduceIte, reduceCtorEq, Int.reduceBEq, Int.reduceBNe, bne_self_eq_false, Int.cast_ofNat_Int, Bool.not_true, Bool.not_false, IntKind.bits]
    exact aret_plain hs (.bool _) h
  have ha : a.length ≤ 100000 := by simp at h1; omega
  simp only [h1, go_sem, Nat.reduceLeDiff, Nat.reduceAdd, Nat.reduceSub, Nat.reduceMul, Nat.reduceLT, Int.reduceLT, Int.reduceLE, Int.reduceAdd, Int.reduceSub, Int.reduceMul, Int.reduceToNat, Int.reduceNeg, Int.reduceEq, Nat.reducePow, Int.reducePow, Nat.reduceEqDiff, decide_true, decide_false, reduceIte, reduceCtorEq, Int.reduceBEq, Int.reduceBNe, bne_self_eq_false, Int.cast_ofNat_Int, Bool.not_true, Bool.not_false, IntKind.bits]
  refine grd_split (fun h2 => ?_) (fun h2 => ?_)
  · simp only [h2, go_sem, Nat.reduceLeDiff, Nat.reduceAdd, Nat.reduceSub, Nat.reduceMul, Nat.reduceLT, Int.reduceLT, Int.reduceLE, Int.reduceAdd, Int.reduceSub, Int.reduceMul, Int.reduceToNat, Int.reduceNeg, Int.reduceEq, Nat.reducePow, Int.reducePow, Nat.reduceEqDiff, decide_true, decide_false, reduceIte, reduceCtorEq, Int.reduceBEq, Int.reduceBNe, bne_self_eq_false, Int.cast_ofNat_Int, Bool.not_true, Bool.not_false, IntKind.bits]
    refine awake22_a ?_
    simp only [go_sem, Nat.reduceLeDiff, Nat.reduceAdd, Nat.reduceSub, Nat.reduceMul, Nat.reduceLT, Int.reduceLT, Int.reduceLE, Int.reduceAdd, Int.reduceSub, Int.reduceMul, Int.reduceToNat, Int.reduceNeg, Int.reduceEq, Nat.reducePow, Int.reducePow, Nat.reduceEqDiff, decide_true, decide_false, reduceIte, reduceCtorEq, Int.reduceBEq, Int.reduceBNe, bne_self_eq_false, Int.cast_ofNat_Int, Bool.not_true, Bool.not_false, IntKind.bits]
    exact aret_plain hs (.bool _) h
  have hb : b.length ≤ 100000 := by simp at h2; omega
  simp only [h2, go_sem, Nat.reduceLeDiff, Nat.reduceAdd, Nat.reduceSub, Nat.reduceMul, Nat.reduceLT, Int.reduceLT, Int.reduceLE, Int.reduceAdd, Int.reduceSub, Int.reduceMul, Int.reduceToNat, Int.reduceNeg, Int.reduceEq, Nat.reducePow, Int.reducePow, Nat.reduceEqDiff, decide_true, decide_false, reduceIte, reduceCtorEq, Int.reduceBEq, Int.reduceBNe, bne_self_eq_false, Int.cast_ofNat_Int, Bool.not_true, Bool.not_false, IntKind.bits]
  refine cnd_split (fun h3 => ?_) (fun h3 => ?_)
  · simp only [h3, go_sem, Nat.reduceLeDiff, Nat.reduceAdd, Nat.reduceSub, Nat.reduceMul, Nat.reduceLT, Int.reduceLT, Int.reduceLE, Int.reduceAdd, Int.reduceSub, Int.reduceMul, Int.reduceToNat, Int.reduceNeg, Int.reduceEq, Nat.reducePow, Int.reducePow, Nat.reduceEqDiff, decide_true, decide_false, reduceIte, reduceCtorEq, Int.reduceBEq, Int.reduceBNe, bne_self_eq_false, Int.cast_ofNat_Int, Bool.not_true, Bool.not_false, IntKind.bits]
    refine awake22_a ?_
    simp only [go_sem, Nat.reduceLeDiff, Nat.reduceAdd, Nat.reduceSub, Nat.reduceMul, Nat.reduceLT, Int.reduceLT, Int.reduceLE, Int.reduceAdd, Int.reduceSub, Int.reduceMul, Int.reduceToNat, Int.reduceNeg, Int.reduceEq, Nat.reducePow, Int.reducePow, Nat.reduceEqDiff, decide_true, decide_false, reduceIte, reduceCtorEq, Int.reduceBEq, Int.reduceBNe, bne_self_eq_false, Int.cast_ofNat_Int, Bool.not_true, Bool.not_false, IntKind.bits]
    exact aret_plain hs (.bool _) h
  have hd : data.length ≤ 496 := by simp at h3; omega
  simp only [h3, go_sem, Nat.reduceLeDiff, Nat.reduceAdd, Nat.reduceSub, Nat.reduceMul, Nat.reduceLT, Int.reduceLT, Int.reduceLE, Int.reduceAdd, Int.reduceSub, Int.reduceMul, Int.reduceToNat, Int.reduceNeg, Int.reduceEq, Nat.reducePow, Int.reducePow, Nat.reduceEqDiff, decide_true, decide_false, reduceIte, reduceCtorEq, Int.reduceBEq, Int.reduceBNe, bne_self_eq_false, Int.cast_ofNat_Int, Bool.not_true, Bool.not_false, IntKind.bits]
  refine which_a ha hb ?_
  have ht := next_told a b data hd
  have hr := target_range a b
  generalize hw : whichL a b = x at ht ⊢
  obtain ⟨k, m, e⟩ := x
  simp only [whichV, go_sem, Nat.reduceLeDiff, Nat.reduceAdd, Nat.reduceSub, Nat.reduceMul, Nat.reduceLT, Int.reduceLT, Int.reduceLE, Int.reduceAdd, Int.reduceSub, Int.reduceMul, Int.reduceToNat, Int.reduceNeg, Int.reduceEq, Nat.reducePow, Int.reducePow, Nat.reduceEqDiff, decide_true, decide_false, reduceIte, reduceCtorEq, Int.reduceBEq, Int.reduceBNe, bne_self_eq_false, Int.cast_ofNat_Int, Bool.not_true, Bool.not_false, IntKind.bits]
  refine target_a ha hb ?_
  generalize targetL a b = y at ht hr ⊢
  obtain ⟨n, s⟩ := y
  simp only at hr
  have hl := sec_len hr.1 hr.2 hd
  have hl4 : (4 : Int) ≤ ((sec s data).length : Int) := by omega
  have hu : (List.drop 4 (sec s data)).length ≤ 9223372036854775800 := by simp; omega
  have hu2 : 4 + (List.drop 4 (sec s data)).length ≤ 9223372036854775807 := by omega
  have hfold : penv ++ (bodyL s data).1 = sec s data := rfl
  have hfold2 : (255 : UInt8) :: 255 :: 255 :: 255 :: List.drop 4 (sec s data) = unm (sec s data) := rfl
  have hll : (unm (sec s data)).length ≤ 100000 := by simp [unm]; omega
  rcases ht with ⟨rfl, ht2, ht3, ht4⟩ | ⟨rfl, ht2, ht3, ht4⟩
  · have hk : ((0 : Int) == k) = false := by simp at ht2; simpa using fun e => ht2 e.symm
    simp only [targetV, hk, go_sem, Nat.reduceLeDiff, Nat.reduceAdd, Nat.reduceSub, Nat.reduceMul, Nat.reduceLT, Int.reduceLT, Int.reduceLE, Int.reduceAdd, Int.reduceSub, Int.reduceMul, Int.reduceToNat, Int.reduceNeg, Int.reduceEq, Nat.reducePow, Int.reducePow, Nat.reduceEqDiff, decide_true, decide_false, reduceIte, reduceCtorEq, Int.reduceBEq, Int.reduceBNe, bne_self_eq_false, Int.cast_ofNat_Int, Bool.not_true, Bool.not_false, IntKind.bits]
    refine sector_a ?_
    simp only [hfold, go_sem, Nat.reduceLeDiff, Nat.reduceAdd, Nat.reduceSub, Nat.reduceMul, Nat.reduceLT, Int.reduceLT, Int.reduceLE, Int.reduceAdd, Int.reduceSub, Int.reduceMul, Int.reduceToNat, Int.reduceNeg, Int.reduceEq, Nat.reducePow, Int.reducePow, Nat.reduceEqDiff, decide_true, decide_false, reduceIte, reduceCtorEq, Int.reduceBEq, Int.reduceBNe, bne_self_eq_false, Int.cast_ofNat_Int, Bool.not_true, Bool.not_false, IntKind.bits]
    refine which_a (by omega) hb ?_
    simp only [ht3, whichV, hl4, hu2, hfold2, go_sem, Nat.reduceLeDiff, Nat.reduceAdd, Nat.reduceSub, Nat.reduceMul, Nat.reduceLT, Int.reduceLT, Int.reduceLE, Int.reduceAdd, Int.reduceSub, Int.reduceMul, Int.reduceToNat, Int.reduceNeg, Int.reduceEq, Nat.reducePow, Int.reducePow, Nat.reduceEqDiff, decide_true, decide_false, reduceIte, reduceCtorEq, Int.reduceBEq, Int.reduceBNe, bne_self_eq_false, Int.cast_ofNat_Int, Bool.not_true, Bool.not_false, IntKind.bits]
    refine which_a hll hb ?_
    simp only [ht4, whichV, go_sem, Nat.reduceLeDiff, Nat.reduceAdd, Nat.reduceSub, Nat.reduceMul, Nat.reduceLT, Int.reduceLT, Int.reduceLE, Int.reduceAdd, Int.reduceSub, Int.reduceMul, Int.reduceToNat, Int.reduceNeg, Int.reduceEq, Nat.reducePow, Int.reducePow, Nat.reduceEqDiff, decide_true, decide_false, reduceIte, reduceCtorEq, Int.reduceBEq, Int.reduceBNe, bne_self_eq_false, Int.cast_ofNat_Int, Bool.not_true, Bool.not_false, IntKind.bits]
    refine awake22_a ?_
    simp only [go_sem, Nat.reduceLeDiff, Nat.reduceAdd, Nat.reduceSub, Nat.reduceMul, Nat.reduceLT, Int.reduceLT, Int.reduceLE, Int.reduceAdd, Int.reduceSub, Int.reduceMul, Int.reduceToNat, Int.reduceNeg, Int.reduceEq, Nat.reducePow, Int.reducePow, Nat.reduceEqDiff, decide_true, decide_false, reduceIte, reduceCtorEq, Int.reduceBEq, Int.reduceBNe, bne_self_eq_false, Int.cast_ofNat_Int, Bool.not_true, Bool.not_false, IntKind.bits]
    exact aret_plain hs (.bool _) h
  · have hk : ((1 : Int) == k) = false := by simp at ht2; simpa using fun e => ht2 e.symm
    simp only [targetV, hk, go_sem, Nat.reduceLeDiff, Nat.reduceAdd, Nat.reduceSub, Nat.reduceMul, Nat.reduceLT, Int.reduceLT, Int.reduceLE, Int.reduceAdd, Int.reduceSub, Int.reduceMul, Int.reduceToNat, Int.reduceNeg, Int.reduceEq, Nat.reducePow, Int.reducePow, Nat.reduceEqDiff, decide_true, decide_false, reduceIte, reduceCtorEq, Int.reduceBEq, Int.reduceBNe, bne_self_eq_false, Int.cast_ofNat_Int, Bool.not_true, Bool.not_false, IntKind.bits]
    refine sector_a ?_
    simp only [hfold, go_sem, Nat.reduceLeDiff, Nat.reduceAdd, Nat.reduceSub, Nat.reduceMul, Nat.reduceLT, Int.reduceLT, Int.reduceLE, Int.reduceAdd, Int.reduceSub, Int.reduceMul, Int.reduceToNat, Int.reduceNeg, Int.reduceEq, Nat.reducePow, Int.reducePow, Nat.reduceEqDiff, decide_true, decide_false, reduceIte, reduceCtorEq, Int.reduceBEq, Int.reduceBNe, bne_self_eq_false, Int.cast_ofNat_Int, Bool.not_true, Bool.not_false, IntKind.bits]
    refine which_a ha (by omega) ?_
    simp only [ht3, whichV, hl4, hu2, hfold2, go_sem, Nat.reduceLeDiff, Nat.reduceAdd, Nat.reduceSub, Nat.reduceMul, Nat.reduceLT, Int.reduceLT, Int.reduceLE, Int.reduceAdd, Int.reduceSub, Int.reduceMul, Int.reduceToNat, Int.reduceNeg, Int.reduceEq, Nat.reducePow, Int.reducePow, Nat.reduceEqDiff, decide_true, decide_false, reduceIte, reduceCtorEq, Int.reduceBEq, Int.reduceBNe, bne_self_eq_false, Int.cast_ofNat_Int, Bool.not_true, Bool.not_false, IntKind.bits]
    refine which_a ha hll ?_
    simp only [ht4, whichV, go_sem, Nat.reduceLeDiff, Nat.reduceAdd, Nat.reduceSub, Nat.reduceMul, Nat.reduceLT, Int.reduceLT, Int.reduceLE, Int.reduceAdd, Int.reduceSub, Int.reduceMul, Int.reduceToNat, Int.reduceNeg, Int.reduceEq, Nat.reducePow, Int.reducePow, Nat.reduceEqDiff, decide_true, decide_false, reduceIte, reduceCtorEq, Int.reduceBEq, Int.reduceBNe, bne_self_eq_false, Int.cast_ofNat_Int, Bool.not_true, Bool.not_false, IntKind.bits]
    refine awake22_a ?_
    simp only [go_sem, Nat.reduceLeDiff, Nat.reduceAdd, Nat.reduceSub, Nat.reduceMul, Nat.reduceLT, Int.reduceLT, Int.reduceLE, Int.reduceAdd, Int.reduceSub, Int.reduceMul, Int.reduceToNat, Int.reduceNeg, Int.reduceEq, Nat.reducePow, Int.reducePow, Nat.reduceEqDiff, decide_true, decide_false, reduceIte, reduceCtorEq, Int.reduceBEq, Int.reduceBNe, bne_self_eq_false, Int.cast_ofNat_Int, Bool.not_true, Bool.not_false, IntKind.bits]
    exact aret_plain hs (.bool _) h
theorem law_PickNext (a0 a1 a2 : ByteArray) : (ACalls Try.prog) 12 [.str a0, .str a1, .str a2] H0 (fun y _ => y = .bool true) := by
  rw [← B_of a0, ← B_of a1, ← B_of a2]
  exact pickNext_a rfl
end Go.Proofs.Ythpgppamdejjhaa.AL
