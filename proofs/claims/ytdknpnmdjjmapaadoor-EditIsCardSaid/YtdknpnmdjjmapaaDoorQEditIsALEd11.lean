/- Trees told: the program is awake; the law of what is changed. -/
import Derived.Test.YtdknpnmdjjmapaaDoorQEditIsALEd5
import Derived.Test.YtdknpnmdjjmapaaDoorQEditIsALPat2
set_option linter.unusedSimpArgs false
set_option linter.unusedVariables false
set_option maxRecDepth 100000
set_option maxHeartbeats 16000000
namespace Go.Proofs.YtdknpnmdjjmapaaDoor.AL
open Go Go.Proofs
attribute [local go_sem] go_seq go_skip go_region go_regionN go_fregion rgF_some go_cond go_block go_exit go_ret nxt_nil nxt_code nxt_blk nxt_cut leave_nil leave_code leave_cut leave_blk rtn_nil rtn_code rtn_blk rtn_cut cnd_t cnd_f rgn_nil rgY_some rgY_none rgH_some rgP_some retTo_is rgV_func grd_und grd_tt grd_ff grd_tf grd_ft rgn_q rgn_alloc rgn_box rgn_store rgn_lit rgn_litw litCells_nil litCells_cons rgn_app rgn_copy rgn_mk rgn_s2b rgn_call rgn_callv rgn_stop rgn_slice3 aslice3 rgn_slice3l aslice3l rgn_appz rgn_clear rgn_range rgn_next arange acap rgn_put rgn_mkmap rgn_lookup rgn_mapup alookup_nilm alookup_map amapup_map afound_ok afound_no rgn_c rgn_cv qclV_func aloadr rgn_guard post_ret post_normal retY_some ares aresL ares1 AX.ev aput List.getD_cons_zero List.getD_cons_succ List.set_cons_zero List.set_cons_succ List.map_cons List.map_nil aq abin aint astr abeq aconv asame aextract alenS alenL_nils alenL_emp alenL_imm alenL_wr alenL_wc aun apart aload afieldAddr afield aidxSl_wr aidxSl_wc aidxSl_imm aidxPt aidxStr aidxArr abound asliceStr asliceSl asliceArr abest anonil afill astore acells_nils acells_emp acells_imm acells_wr acells_wc acells_str acopy litAll amk as2b anil nilOf aseq aeqs aeqv fits fit1 hp_next hp_push hp_get hp_set List.length_cons List.length_nil List.getElem?_cons_zero List.getElem?_cons_succ List.cons_append List.nil_append List.append_nil List.take_succ_cons List.take_zero List.drop_succ_cons List.drop_zero List.all_cons List.all_nil Option.map_some Option.some.injEq Bool.and_true Bool.true_and Bool.false_eq_true if_true if_false ite_true ite_false Bool.and_self true_and and_true and_self Nat.zero_add Nat.le_refl Int.toNat_natCast beq_self_eq_true eq_self tops_zero tops_succ Int.natCast_nonneg List.take_nil List.drop_nil Option.map_none flat_bool one_bool cells_bool flat_int one_int cells_int flat_str one_str cells_str flat_nilp one_nilp cells_nilp flat_ptr one_ptr cells_ptr flat_nils one_nils cells_nils flat_imm one_imm cells_imm flat_wr one_wr cells_wr flat_wc one_wc cells_wc flat_func one_func cells_func flat_nilf one_nilf cells_nilf flat_map one_map cells_map flat_nilm one_nilm cells_nilm flat_iface one_iface cells_iface flat_nili one_nili cells_nili flat_rd one_rd cells_rd flat_emp one_emp cells_emp flat_byteV one_byteV cells_byteV flat_agg cells_agg one_agg B_size B_list B_ext B_toList B_app List.take_length Int.le_refl
def YChI (a : List AV) : Prop := ∃ n, (Lit.int .i64 n).wf = true ∧ a = [.int .i64 n]
def YChg (zs : List AV) : Prop := ∃ a a2 : List AV, zs = a ++ a2 ∧ YChI a ∧ ∃ b b2 : List AV, a2 = b ++ b2 ∧ YStr b ∧ YStr b2
theorem openChg : Opens Tryd.prog 27 YChg :=
  opens_struct (sz := 1 + (1 + 1)) Tryd.underlying27 (by kernel_rfl) (fun n => fields_cons rfl (by kernel_rfl) (opens_int Tryd.underlying3 n) (fields_cons rfl (by kernel_rfl) (opens_str Tryd.underlying9 n) (fields_one rfl (by kernel_rfl) (opens_str Tryd.underlying9 n))))
theorem chg_of {ys : List AV} (hy : YChg ys) : ∃ (kind : Int) (nm v : List UInt8), nm.length ≤ 9223372036854775807 ∧ v.length ≤ 9223372036854775807 ∧ ys = [.int .i64 kind, .str (B nm), .str (B v)] := by
  obtain ⟨_, _, rfl, ⟨n1, _, rfl⟩, _, _, rfl, ⟨s1, h1, rfl⟩, ⟨s2, h2, rfl⟩⟩ := hy
  exact ⟨n1, s1.data.toList, s2.data.toList, h1, h2, by simp [B_of]⟩
/-- What is done at a path. -/
def actS (kind : Int) (nm v p : List UInt8) (t : Tr) : Tr × Int :=
  if kind = 1 then changedS (setF nm v) p t else if kind = 2 then changedS (unsetF nm) p t else if kind = 3 then changedS (addF nm) p t else if kind = 5 then dropS p t else makeS p t
theorem makeL_m (ns : List (List UInt8)) (hns : ∀ s ∈ ns, s.length ≤ 100000) : ∀ (m k n : Nat) (t : Tr), TrM n t → TrM (n + m) (makeL ns m k t).1
  | 0, k, n, t, h => by
    rw [makeL]
    show TrM (n + 0) (if _ then _ else _)
    split
    · exact h
    · exact trm_0 _
  | m + 1, k, n, t, h => by
    have hk : (ns.getD k []).length ≤ 100000 := by
      rw [List.getD_eq_getElem?_getD]
      cases hg : ns[k]? with
      | none => simp
      | some s => exact hns s (List.mem_of_getElem? hg)
    rw [makeL]
    split
    · exact trm_up (by omega) (makeL_m ns hns m (k + 1) n t h)
    · split
      · have := makeL_m ns hns m (k + 1) (n + 1) _ (trm_strip (changedS_m (p := joinPs (ns.take k)) (addF_m (n := n) hk) h))
        rw [show n + (m + 1) = n + 1 + m by omega]
        exact this
      · exact trm_0 _
theorem makeS_m {n : Nat} {p : List UInt8} {t : Tr} (hp_ : p.length ≤ 100000) (h : TrM n t) : TrM (n + 8) (makeS p t).1 := by
  unfold makeS
  cases hpp : partsP p with
  | none => exact trm_0 _
  | some ns =>
    have h8 := partsP_le hpp
    exact trm_up (by omega) (makeL_m ns (fun s hs => Nat.le_trans (parts_mem hpp s hs) hp_) ns.length 0 n t h)
theorem dropS_m {n : Nat} {p : List UInt8} {t : Tr} (h : TrM n t) : TrM (n + 1) (dropS p t).1 := by
  unfold dropS
  split
  · exact trm_0 _
  · split
    · exact trm_0 _
    · exact changedS_m dropF_m h
theorem actS_m {n : Nat} {kind : Int} {nm v p : List UInt8} {t : Tr} (hp_ : p.length ≤ 100000) (hn : nm.length ≤ 100000) (hv : v.length ≤ 100000) (h : TrM n t) : TrM (n + 8) (actS kind nm v p t).1 := by
  unfold actS
  split
  · exact trm_up (by omega) (changedS_m (setF_m hn hv) h)
  · split
    · exact trm_up (by omega) (changedS_m unsetF_m h)
    · split
      · exact trm_up (by omega) (changedS_m (addF_m hn) h)
      · split
        · exact trm_up (by omega) (dropS_m h)
        · exact makeS_m hp_ h
theorem dropS_s (p : List UInt8) : StripOk (dropS p) := fun t => by
  unfold dropS
  cases partsP p with
  | none => exact ⟨rfl, rfl⟩
  | some ns =>
    show (if _ then _ else _ : Tr × Int).2 = (if _ then _ else _ : Tr × Int).2 ∧ (if _ then _ else _ : Tr × Int).1.strip = (if _ then _ else _ : Tr × Int).1.strip
    by_cases h : ns = []
    · rw [if_pos h, if_pos h]
      exact ⟨rfl, rfl⟩
    · rw [if_neg h, if_neg h]
      exact changedS_s (dropF_s _) _ t
section
variable {H : AHeap} {K : AV → AHeap → Prop}
theorem do_a {t : Tr} {kind : Int} {p nm v : List UInt8} (ht : TrM 300 t) (hp_ : p.length ≤ 200) (hn : nm.length ≤ 100) (hv : v.length ≤ 300)
    (h : ∀ t' : Tr, t'.strip = (actS kind nm v p t.strip).1.strip → K (.tup [t'.V, .int .i64 (actS kind nm v p t.strip).2]) H) :
    (ACalls Tryd.prog) 9 [t.V, .str (B p), chV kind nm v] H K := by
  refine acalls_go mo t9 (fun hs hu => ?_)
  have hVi := Tr.V_is t
  simp only [c9, Tr.V_is, chV_is, go_sem, Nat.reduceLeDiff, Nat.reduceAdd, Nat.reduceSub, Nat.reduceMul, Nat.reduceLT, Int.reduceLT, Int.reduceLE, Int.reduceAdd, Int.reduceSub, Int.reduceMul, Int.reduceToNat, Int.reduceNeg, Int.reduceEq, Nat.reducePow, Int.reducePow, Nat.reduceEqDiff, decide_true, decide_false, reduceIte, reduceCtorEq, Int.reduceBEq, Int.reduceBNe, bne_self_eq_false, Int.cast_ofNat_Int, Bool.not_true, Bool.not_false, IntKind.bits]
  have fin : ∀ (t' : Tr), t'.strip = (actS kind nm v p t.strip).1.strip → AV.under H.next (.tup [.agg [.str (B t'.name), slA t'.kp 2 (t'.props.map propV), slA t'.kk 3 (t'.kids.map Tr.V)], .int .i64 (actS kind nm v p t.strip).2]) ∧ K (.tup [.agg [.str (B t'.name), slA t'.kp 2 (t'.props.map propV), slA t'.kk 3 (t'.kids.map Tr.V)], .int .i64 (actS kind nm v p t.strip).2]) H := fun t' ht' => by
    have hx := h t' ht'
    have hVu := Tr.V_u H.next t'
    rw [Tr.V_is] at hx hVu
    refine ⟨?_, hx⟩
    simp only [u_tup, u_cons, u_nil, u_int, and_true]
    exact hVu
  clear h
  unfold actS at fin
  by_cases k1 : kind = 1
  · simp only [k1, if_true] at fin
    refine stp k1 ?_
    rw [← hVi]
    refine Set_m (by omega) ht (by omega) (by omega) (by omega) (fun t' ht' => ?_)
    obtain ⟨f1, f2⟩ := fin t' ht'
    have hV2 := Tr.V_is t'
    refine stp hV2 ?_
    exact aret_plain hs f1 f2
  · by_cases k2 : kind = 2
    · simp only [k2, show ¬ (2 : Int) = 1 by decide, if_true, if_false] at fin
      refine stp k2 ?_
      rw [← hVi]
      refine Unset_m (by omega) ht (by omega) (fun t' ht' => ?_)
      obtain ⟨f1, f2⟩ := fin t' ht'
      have hV2 := Tr.V_is t'
      refine stp hV2 ?_
      exact aret_plain hs f1 f2
    · by_cases k3 : kind = 3
      · simp only [k3, show ¬ (3 : Int) = 1 by decide, show ¬ (3 : Int) = 2 by decide, if_true, if_false] at fin
        refine stp k3 ?_
        rw [← hVi]
        refine Add_m (by omega) ht (by omega) (by omega) (fun t' ht' => ?_)
        obtain ⟨f1, f2⟩ := fin t' ht'
        have hV2 := Tr.V_is t'
        refine stp hV2 ?_
        exact aret_plain hs f1 f2
      · by_cases k5 : kind = 5
        · simp only [k5, show ¬ (5 : Int) = 1 by decide, show ¬ (5 : Int) = 2 by decide, show ¬ (5 : Int) = 3 by decide, if_true, if_false] at fin
          refine stp k5 ?_
          rw [← hVi]
          refine Drop_m (by omega) ht (by omega) (fun t' ht' => ?_)
          obtain ⟨f1, f2⟩ := fin t' ht'
          have hV2 := Tr.V_is t'
          refine stp hV2 ?_
          exact aret_plain hs f1 f2
        · simp only [k1, k2, k3, k5, if_false] at fin
          refine stp (And.intro k1 (And.intro k2 (And.intro k3 k5))) ?_
          rw [← hVi]
          refine Make_m (by omega) ht (by omega) (fun t' ht' => ?_)
          obtain ⟨f1, f2⟩ := fin t' ht'
          have hV2 := Tr.V_is t'
          refine stp hV2 ?_
          exact aret_plain hs f1 f2
theorem wants_a {t : Tr} {kind : Int} {p nm v : List UInt8} (ht : TrM 300 t) (hp_ : p.length ≤ 200) (hn : nm.length ≤ 100) (hv : v.length ≤ 300)
    (h : ∀ t' : Tr, t'.strip = (actS kind nm v p t.strip).1.strip → K (.tup [t'.V, .int .i64 (actS kind nm v p t.strip).2]) H) :
    (ACalls Tryd.prog) 10 [t.V, .str (B p), chV kind nm v] H K := by
  refine acalls_go mo t10 (fun hs hu => ?_)
  have hVi := Tr.V_is t
  simp only [c10, Tr.V_is, chV_is, go_sem, Nat.reduceLeDiff, Nat.reduceAdd, Nat.reduceSub, Nat.reduceMul, Nat.reduceLT, Int.reduceLT, Int.reduceLE, Int.reduceAdd, Int.reduceSub, Int.reduceMul, Int.reduceToNat, Int.reduceNeg, Int.reduceEq, Nat.reducePow, Int.reducePow, Nat.reduceEqDiff, decide_true, decide_false, reduceIte, reduceCtorEq, Int.reduceBEq, Int.reduceBNe, bne_self_eq_false, Int.cast_ofNat_Int, Bool.not_true, Bool.not_false, IntKind.bits]
  have fin : ∀ (t' : Tr), t'.strip = (actS kind nm v p t.strip).1.strip → AV.under H.next (.tup [.agg [.str (B t'.name), slA t'.kp 2 (t'.props.map propV), slA t'.kk 3 (t'.kids.map Tr.V)], .int .i64 (actS kind nm v p t.strip).2]) ∧ K (.tup [.agg [.str (B t'.name), slA t'.kp 2 (t'.props.map propV), slA t'.kk 3 (t'.kids.map Tr.V)], .int .i64 (actS kind nm v p t.strip).2]) H := fun t' ht' => by
    have hx := h t' ht'
    have hVu := Tr.V_u H.next t'
    rw [Tr.V_is] at hx hVu
    refine ⟨?_, hx⟩
    simp only [u_tup, u_cons, u_nil, u_int, and_true]
    exact hVu
  clear h
  unfold actS at fin
  by_cases k1 : kind = 1
  · simp only [k1, if_true] at fin
    obtain ⟨z1, z2⟩ := changedS_s (setF_s nm v) p t
    refine stp k1 ?_
    rw [← hVi, ← chV_is]
    refine rDo_a (doc1 (by omega)) (setF_m (by omega) (by omega)) (trm_up (by omega) ht) (by omega) (fun t' ht' => ?_)
    rw [← z2] at ht'
    obtain ⟨f1, f2⟩ := fin t' ht'
    rw [z1] at f1 f2
    have hV2 := Tr.V_is t'
    rw [chV_is]
    refine stp hV2 ?_
    exact aret_plain hs f1 f2
  · by_cases k2 : kind = 2
    · simp only [k2, show ¬ (2 : Int) = 1 by decide, if_true, if_false] at fin
      obtain ⟨z1, z2⟩ := changedS_s (unsetF_s nm) p t
      refine stp k2 ?_
      rw [← hVi, ← chV_is]
      refine rDo_a doc2 unsetF_m (trm_up (by omega) ht) (by omega) (fun t' ht' => ?_)
      rw [← z2] at ht'
      obtain ⟨f1, f2⟩ := fin t' ht'
      rw [z1] at f1 f2
      have hV2 := Tr.V_is t'
      rw [chV_is]
      refine stp hV2 ?_
      exact aret_plain hs f1 f2
    · by_cases k3 : kind = 3
      · simp only [k3, show ¬ (3 : Int) = 1 by decide, show ¬ (3 : Int) = 2 by decide, if_true, if_false] at fin
        obtain ⟨z1, z2⟩ := changedS_s (addF_s nm) p t
        refine stp k3 ?_
        rw [← hVi, ← chV_is]
        refine rDo_a (doc3 (by omega)) (addF_m (by omega)) (trm_up (by omega) ht) (by omega) (fun t' ht' => ?_)
        rw [← z2] at ht'
        obtain ⟨f1, f2⟩ := fin t' ht'
        rw [z1] at f1 f2
        have hV2 := Tr.V_is t'
        rw [chV_is]
        refine stp hV2 ?_
        exact aret_plain hs f1 f2
      · by_cases k5 : kind = 5
        · simp only [k5, show ¬ (5 : Int) = 1 by decide, show ¬ (5 : Int) = 2 by decide, show ¬ (5 : Int) = 3 by decide, if_true, if_false] at fin
          obtain ⟨z1, z2⟩ := dropS_s p t
          refine stp k5 ?_
          rw [← hVi]
          refine rDrop_a (trm_up (by omega) ht) (by omega) (fun t' ht' => ?_)
          rw [← z2] at ht'
          obtain ⟨f1, f2⟩ := fin t' ht'
          rw [z1] at f1 f2
          have hV2 := Tr.V_is t'
          refine stp hV2 ?_
          exact aret_plain hs f1 f2
        · simp only [k1, k2, k3, k5, if_false] at fin
          refine stp (And.intro k1 (And.intro k2 (And.intro k3 k5))) ?_
          rw [← hVi]
          refine rMake_a (by omega) ht (by omega) (fun t' ht' => ?_)
          obtain ⟨f1, f2⟩ := fin t' ht'
          have hV2 := Tr.V_is t'
          refine stp hV2 ?_
          exact aret_plain hs f1 f2
theorem few17_a {kind : Int} {nm v : List UInt8} (h : K (.bool (decide (nm.length ≤ 100) && decide (v.length ≤ 300))) H) (hn : nm.length ≤ 9223372036854775807) (hv : v.length ≤ 9223372036854775807) : (ACalls Tryd.prog) 6 [chV kind nm v] H K := by
  refine acalls_go mo t6 (fun hs hu => ?_)
  simp only [c6, chV_is, go_sem, Nat.reduceLeDiff, Nat.reduceAdd, Nat.reduceSub, Nat.reduceMul, Nat.reduceLT, Int.reduceLT, Int.reduceLE, Int.reduceAdd, Int.reduceSub, Int.reduceMul, Int.reduceToNat, Int.reduceNeg, Int.reduceEq, Nat.reducePow, Int.reducePow, Nat.reduceEqDiff, decide_true, decide_false, reduceIte, reduceCtorEq, Int.reduceBEq, Int.reduceBNe, bne_self_eq_false, Int.cast_ofNat_Int, Bool.not_true, Bool.not_false, IntKind.bits]
  by_cases h1 : nm.length ≤ 100
  · by_cases h2 : v.length ≤ 300
    · rw [decide_eq_true h1, decide_eq_true h2] at h
      refine stp (And.intro h1 h2) ?_
      exact aret_u hs (h)
    · rw [decide_eq_true h1, decide_eq_false h2] at h
      refine stp (And.intro h1 h2) ?_
      exact aret_u hs (h)
  · rw [decide_eq_false h1] at h
    refine stp h1 ?_
    exact aret_u hs (h)
end
def awT1 : Tr := .mk [] 0 [] 0 [.mk [97] 0 [] 0 [.mk [98] 0 [] 0 []]]
def awT2 : Tr := .mk [] 0 [] 0 [.mk [97] 0 [] 0 [.mk [98] 0 [([120], [49])] 0 []]]
theorem awk17_1 : makeS [47, 97, 47, 98] tr0 = (awT1, 0) := by kernel_rfl
theorem awk17_2 : changedS (setF [120] [49]) [47, 97, 47, 98] awT1 = (awT2, 0) := by kernel_rfl
theorem awk17_3 : findT awT2 [47, 97, 47, 98] = some (.mk [98] 0 [([120], [49])] 0 []) := by kernel_rfl
theorem awk17_4 : dropS [47, 97] awT2 = (tr0, 0) := by kernel_rfl
theorem awk17_5 : (changedS (addF [98]) [47, 97] awT1).2 = 12 := by kernel_rfl
theorem trm_aw1 : TrM 10 awT1 := by
  refine .mk _ _ _ _ _ (by simp) (by simp) (by simp) (by simp) (fun k hk => ?_)
  obtain rfl := List.mem_singleton.1 hk
  refine .mk _ _ _ _ _ (by simp) (by simp) (by simp) (by simp) (fun k hk => ?_)
  obtain rfl := List.mem_singleton.1 hk
  exact .mk _ _ _ _ _ (by simp) (by simp) (by simp) (by simp) (by simp)
theorem trm_aw2 : TrM 10 awT2 := by
  refine .mk _ _ _ _ _ (by simp) (by simp) (by simp) (by simp) (fun k hk => ?_)
  obtain rfl := List.mem_singleton.1 hk
  refine .mk _ _ _ _ _ (by simp) (by simp) (by simp) (by simp) (fun k hk => ?_)
  obtain rfl := List.mem_singleton.1 hk
  exact .mk _ _ _ _ _ (by simp) (by simp) (by simp) (by simp) (by simp)
/-- What is found in a tree that is alike. -/
theorem find_alike {t u x : Tr} {p : List UInt8} (h : t.strip = u.strip) (hf : findT u p = some x) : ∃ y, findT t p = some y ∧ y.strip = x.strip := by
  have e : (findT t p).map Tr.strip = some x.strip := by rw [← findT_strip, h, findT_strip, hf]; rfl
  cases hy : findT t p with
  | none => rw [hy] at e; cases e
  | some y => rw [hy] at e; exact ⟨y, rfl, Option.some.inj e⟩
section
variable {H : AHeap} {K : AV → AHeap → Prop}
theorem awake17_a (h : K (.bool true) H) : (ACalls Tryd.prog) 7 [] H K := by
  refine acalls_go mo t7 (fun hs hu => ?_)
  have e0 : tr0.V = .agg [.str (B []), .nils, .nils] := tr0_V
  have es0 : tr0.strip = tr0 := rfl
  simp only [c7, go_sem, Nat.reduceLeDiff, Nat.reduceAdd, Nat.reduceSub, Nat.reduceMul, Nat.reduceLT, Int.reduceLT, Int.reduceLE, Int.reduceAdd, Int.reduceSub, Int.reduceMul, Int.reduceToNat, Int.reduceNeg, Int.reduceEq, Nat.reducePow, Int.reducePow, Nat.reduceEqDiff, decide_true, decide_false, reduceIte, reduceCtorEq, Int.reduceBEq, Int.reduceBNe, bne_self_eq_false, Int.cast_ofNat_Int, Bool.not_true, Bool.not_false, IntKind.bits]
  rw [← e0]
  refine Make_m (n := 10) (by omega) (trm_0 _) (by decide) (fun n hn => ?_)
  rw [es0, awk17_1] at hn
  rw [es0, awk17_1]
  have hn : n.strip = awT1.strip := hn
  have hnm := trm_same hn trm_aw1
  have hV1 := Tr.V_is n
  refine stp hV1 ?_
  rw [← hV1]
  refine Set_m (n := 10) (by omega) hnm (by decide) (by decide) (by decide) (fun m hm => ?_)
  rw [hn, show awT1.strip = awT1 from rfl, awk17_2] at hm
  rw [hn, show awT1.strip = awT1 from rfl, awk17_2]
  have hm : m.strip = awT2.strip := hm
  have hmm := trm_same hm trm_aw2
  have hV2 := Tr.V_is m
  obtain ⟨y, hy1, hy2⟩ := find_alike hm awk17_3
  have hyp : y.props.length = 1 := by rw [← Tr.strip_props, hy2]; rfl
  rw [hV1]
  refine stp hV2 ?_
  rw [← hV2]
  refine find_a (trm_ok (by omega) hmm) (by decide) ?_
  rw [hy1, foundV_s]
  rw [hV2]
  refine stp0 ?_
  rw [← hV2]
  refine Drop_m (n := 10) (by omega) hmm (by decide) (fun o ho => ?_)
  rw [hm, show awT2.strip = awT2 from rfl, awk17_4] at ho
  rw [hm, show awT2.strip = awT2 from rfl, awk17_4]
  have ho : o.strip = tr0 := ho
  have hok : o.kids.length = 0 := by
    have e : o.kids.map Tr.strip = [] := by rw [← Tr.strip_kids, ho]; rfl
    rw [← List.length_map (f := Tr.strip), e]
    rfl
  have hV3 := Tr.V_is o
  rw [hV2]
  refine stp hV3 ?_
  rw [← hV1]
  refine Add_m (n := 10) (by omega) hnm (by decide) (by decide) (fun q hq => ?_)
  rw [hn, show awT1.strip = awT1 from rfl, awk17_5]
  have hV4 := Tr.V_is q
  rw [hV1]
  refine stp (And.intro hV4 (And.intro hyp hok)) ?_
  exact aret_u hs (h)
theorem law_EditIs (ys0 : List AV) (a1 : ByteArray) (ys2 : List AV) (hY0 : YTr ys0) (hY2 : YChg ys2) {H : AHeap} : (ACalls Tryd.prog) 3 [.agg ys0, .str a1, .agg ys2] H (fun y _ => y = .bool true) := by
  obtain ⟨t, ho, rfl⟩ := hY0
  obtain ⟨kind, nm, v, hnl, hvl, rfl⟩ := chg_of hY2
  have hVi := Tr.V_is t
  have hci : chV kind nm v = .agg [.int .i64 kind, .str (B nm), .str (B v)] := rfl
  rw [show AV.agg t.cells = t.V from rfl, ← B_of a1]
  generalize a1.data.toList = p
  refine acalls_go mo t3 (fun hs hu => ?_)
  simp only [c3, Tr.V_is, go_sem, Nat.reduceLeDiff, Nat.reduceAdd, Nat.reduceSub, Nat.reduceMul, Nat.reduceLT, Int.reduceLT, Int.reduceLE, Int.reduceAdd, Int.reduceSub, Int.reduceMul, Int.reduceToNat, Int.reduceNeg, Int.reduceEq, Nat.reducePow, Int.reducePow, Nat.reduceEqDiff, decide_true, decide_false, reduceIte, reduceCtorEq, Int.reduceBEq, Int.reduceBNe, bne_self_eq_false, Int.cast_ofNat_Int, Bool.not_true, Bool.not_false, IntKind.bits]
  rw [← hVi]
  refine Low_a ho ?_
  cases hw : tLow t with
  | false =>
    refine stp0 ?_
    refine awake17_a ?_
    refine stp0 ?_
    exact aret_plain (K := fun y _ => y = .bool true) hs (.bool _) rfl
  | true =>
    have htm := trm_low 12 t (low12 hw)
    have hsz : tsize 12 t ≤ 400 := by
      unfold tLow at hw
      rw [Bool.and_eq_true] at hw
      exact of_decide_eq_true hw.2
    by_cases h1 : p.length ≤ 200
    · refine stp h1 ?_
      rw [← hci]
      refine few17_a ?_ hnl hvl
      by_cases h2 : nm.length ≤ 100
      · by_cases h3 : v.length ≤ 300
        · rw [decide_eq_true h2, decide_eq_true h3, Bool.and_true, hci]
          refine stp0 ?_
          rw [← hVi]
          refine Tokens_a (trm_up (by omega) htm) hsz (fun k1 => ?_)
          refine stp0 ?_
          rw [← hVi, ← hci]
          refine do_a htm h1 h2 h3 (fun a ha => ?_)
          have ham := trm_same ha (actS_m (by omega) (by omega) (by omega) (trm_strip htm))
          have hVa := Tr.V_is a
          rw [hci]
          refine stp hVa ?_
          rw [← hVi, ← hci]
          refine wants_a htm h1 h2 h3 (fun b hb => ?_)
          have hbm := trm_same hb (actS_m (by omega) (by omega) (by omega) (trm_strip htm))
          have hVb := Tr.V_is b
          rw [hci]
          refine stp hVb ?_
          rw [← hVi]
          refine Tokens_a (trm_up (by omega) htm) hsz (fun k2 => ?_)
          have hbl : (tokL 8 t).length ≤ 1000 := by
            have := tokL_len 8 12 t (by omega) hsz
            omega
          generalize tokL 8 t = ls at *
          refine stp0 ?_
          refine go_loopS mono (σ := Nat) (fun i => [(13, .int .i64 (i : Int))]) (fun i => hp H [trRow t, .row 27 0 [.int .i64 kind, .str (B nm), .str (B v)], trRow a, trRow b]) (fun i => i ≤ ls.length) (fun i => ls.length - i) 0 ?_ rfl (Nat.zero_le _) (fun i hi J hJ => ?_)
          · exact fgt
          have hil : i ≤ ls.length := hi
          have hrt := trRow_is t
          have hra := trRow_is a
          have hrb := trRow_is b
          rw [hrt, hra, hrb] at hJ ⊢
          simp only [blurR_nil, blurR_some, blurR_none, blurC_region, blurC_regionN, blurC_fregion, blurT_nil, blurT_cons, blurC_seq, blurC_both, blurC_cond, blurC_block, blurC_loop, blurC_skip, blurC_exit, blurC_ret, tellS_nil, tellS_cons, List.set_cons_zero, List.set_cons_succ, tops_zero, tops_succ]
          by_cases d1 : i < ls.length
          · have ha := tk_at d1
            generalize ls.getD i ⟨0, [], []⟩ = x at *
            have hxc := Tk.V_cells x
            refine stp (And.intro ha hxc) ?_
            exact hJ (i + 1) _ d1 (by omega) fgt
          · refine stp0 ?_
            rw [← hVa, ← hVb]
            refine Same_b (trm_ok (by omega) ham) (trm_ok (by omega) hbm) (by rw [ha, hb]) ?_
            refine stp0 ?_
            refine awake17_a ?_
            refine stp0 ?_
            exact aret_plain (K := fun y _ => y = .bool true) hs (.bool _) rfl
        · rw [decide_eq_true h2, decide_eq_false h3, Bool.and_false, hci]
          refine stp0 ?_
          refine awake17_a ?_
          refine stp0 ?_
          exact aret_plain (K := fun y _ => y = .bool true) hs (.bool _) rfl
      · rw [decide_eq_false h2, Bool.false_and, hci]
        refine stp0 ?_
        refine awake17_a ?_
        refine stp0 ?_
        exact aret_plain (K := fun y _ => y = .bool true) hs (.bool _) rfl
    · refine stp h1 ?_
      refine awake17_a ?_
      refine stp0 ?_
      exact aret_plain (K := fun y _ => y = .bool true) hs (.bool _) rfl
end
end Go.Proofs.YtdknpnmdjjmapaaDoor.AL
