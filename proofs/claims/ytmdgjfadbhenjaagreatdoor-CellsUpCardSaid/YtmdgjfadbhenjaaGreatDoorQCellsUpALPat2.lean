/- Paths told: kids, nodes and properties that the program finds. -/
import Derived.Test.YtmdgjfadbhenjaaGreatDoorQCellsUpALVal1
import Derived.Test.YtmdgjfadbhenjaaGreatDoorQCellsUpALTree1
import Derived.Test.YtmdgjfadbhenjaaGreatDoorQCellsUpALA4
import Derived.Test.YtmdgjfadbhenjaaGreatDoorQCellsUpALA3
import Derived.Test.YtmdgjfadbhenjaaGreatDoorProg
import Derived.KernelRfl
set_option linter.unusedSimpArgs false
set_option linter.unusedVariables false
set_option maxRecDepth 100000
set_option maxHeartbeats 16000000
namespace Go.Proofs.YtmdgjfadbhenjaaGreatDoor.AL
open Go Go.Proofs
attribute [local go_sem] go_seq go_skip go_region go_regionN go_fregion rgF_some go_cond go_block go_exit go_ret nxt_nil nxt_code nxt_blk nxt_cut leave_nil leave_code leave_cut leave_blk rtn_nil rtn_code rtn_blk rtn_cut cnd_t cnd_f rgn_nil rgY_some rgY_none rgH_some rgP_some retTo_is rgV_func grd_und grd_tt grd_ff grd_tf grd_ft rgn_q rgn_alloc rgn_box rgn_store rgn_lit rgn_litw rgn_litc litCells_nil litCells_cons rgn_app rgn_copy rgn_mk rgn_s2b rgn_call rgn_callv rgn_stop rgn_slice3 aslice3 rgn_slice3l aslice3l rgn_appz rgn_clear rgn_range rgn_next arange acap rgn_put rgn_mkmap rgn_lookup rgn_mapup alookup_nilm alookup_map amapup_map afound_ok afound_no rgn_c rgn_cv qclV_func aloadr rgn_guard post_ret post_normal retY_some ares aresL ares1 AX.ev aput List.getD_cons_zero List.getD_cons_succ List.set_cons_zero List.set_cons_succ List.map_cons List.map_nil aq abin aint astr abeq aconv asame aextract alenS alenL_nils alenL_emp alenL_imm alenL_wr alenL_wc aun apart aload afieldAddr afield aidxSl_wr aidxSl_wc aidxSl_imm aidxPt aidxStr aidxArr abound asliceStr asliceSl asliceArr abest anonil afill astore acells_nils acells_emp acells_imm acells_wr acells_wc acells_str acopy litAll amk as2b anil nilOf aseq aeqs aeqv fits fit1 hp_next hp_push hp_get hp_set List.length_cons List.length_nil List.getElem?_cons_zero List.getElem?_cons_succ List.cons_append List.nil_append List.append_nil List.take_succ_cons List.take_zero List.drop_succ_cons List.drop_zero List.all_cons List.all_nil Option.map_some Option.some.injEq Bool.and_true Bool.true_and Bool.false_eq_true if_true if_false ite_true ite_false Bool.and_self true_and and_true and_self Nat.zero_add Nat.le_refl Int.toNat_natCast beq_self_eq_true eq_self tops_zero tops_succ Int.natCast_nonneg List.take_nil List.drop_nil Option.map_none flat_bool one_bool cells_bool flat_int one_int cells_int flat_str one_str cells_str flat_nilp one_nilp cells_nilp flat_ptr one_ptr cells_ptr flat_nils one_nils cells_nils flat_imm one_imm cells_imm flat_wr one_wr cells_wr flat_wc one_wc cells_wc flat_func one_func cells_func flat_nilf one_nilf cells_nilf flat_map one_map cells_map flat_nilm one_nilm cells_nilm flat_iface one_iface cells_iface flat_nili one_nili cells_nili flat_rd one_rd cells_rd flat_emp one_emp cells_emp flat_byteV one_byteV cells_byteV flat_agg cells_agg one_agg B_size B_list B_ext B_toList B_app List.take_length Int.le_refl
theorem TrOk_0 : TrOk tr0 := .mk [] 0 [] 0 [] (by simp) (by simp) (by simp) (by simp) (by simp)
section
variable {H : AHeap} {K : AV → AHeap → Prop}
theorem nindex_a {k : Nat} {ls : List Tr} {p : Tr → Bool} {f : Nat} {fs cs : List AV} (hn : ls.length ≤ 9223372036854775807)
    (hpp : ∀ x ∈ ls, ∀ K : AV → AHeap → Prop, K (.bool (p x)) H → (ACalls Tryz.prog) f (fs ++ [x.V] ++ cs) H K) (h : K (.int .i64 (ixOf p ls 0)) H) :
    (ACalls Tryz.prog) 147 [slA k 3 (ls.map Tr.V), .func (.func f) fs cs] H K := by
  refine acalls_go mo t147 (fun hs hu => ?_)
  simp only [c147, go_sem, Nat.reduceLeDiff, Nat.reduceAdd, Nat.reduceSub, Nat.reduceMul, Nat.reduceLT, Int.reduceLT, Int.reduceLE, Int.reduceAdd, Int.reduceSub, Int.reduceMul, Int.reduceToNat, Int.reduceNeg, Int.reduceEq, Nat.reducePow, Int.reducePow, Nat.reduceEqDiff, decide_true, decide_false, reduceIte, reduceCtorEq, Int.reduceBEq, Int.reduceBNe, bne_self_eq_false, Int.cast_ofNat_Int, Bool.not_true, Bool.not_false, IntKind.bits]
  refine stp0 ?_
  refine go_loopS mono (σ := Nat) (fun i => [(8, .int .i64 (i : Int))]) (fun i => hp H []) (fun i => i ≤ ls.length ∧ ixOf p (ls.drop i) i = ixOf p ls 0) (fun i => ls.length - i) 0 ?_ rfl ⟨by omega, rfl⟩ (fun i hi J hJ => ?_)
  · exact fgt
  obtain ⟨hil, hid⟩ := hi
  simp only [blurR_nil, blurR_some, blurR_none, blurC_region, blurC_regionN, blurC_fregion, blurT_nil, blurT_cons, blurC_seq, blurC_both, blurC_cond, blurC_block, blurC_loop, blurC_skip, blurC_exit, blurC_ret, tellS_nil, tellS_cons, List.set_cons_zero, List.set_cons_succ, tops_zero, tops_succ]
  by_cases h1 : i < ls.length
  · have ha := tr_at h1
    have hm := tr_mem h1
    rw [ixOf_drop p ls i tr0 h1] at hid
    generalize ls.getD i tr0 = x at *
    have hVc := Tr.V_cells x
    have hVi := Tr.V_is x
    refine stp (And.intro ha hVc) ?_
    rw [← hVi, hp_nil]
    refine hpp _ hm _ ?_
    rw [← hp_nil (H := H)]
    cases h2 : p x with
    | true =>
      rw [if_pos h2] at hid
      rw [← hid] at h
      refine stp0 ?_
      exact aret_u hs (h)
    | false =>
      rw [if_neg (by rw [h2]; exact Bool.false_ne_true)] at hid
      refine stp0 ?_
      exact hJ (i + 1) _ ⟨h1, hid⟩ (by omega) fgt
  · rw [List.drop_of_length_le (by omega)] at hid
    rw [← hid] at h
    refine stp0 ?_
    exact aret_u hs (h)
theorem prop_mem {l : List (List UInt8 × List UInt8)} {i : Nat} (h : i < l.length) : l.getD i ([], []) ∈ l := by
  rw [List.getD_eq_getElem?_getD, List.getElem?_eq_getElem h]
  exact List.getElem_mem h
theorem prindex_a {k : Nat} {ls : List (List UInt8 × List UInt8)} {p : List UInt8 × List UInt8 → Bool} {f : Nat} {fs cs : List AV} (hn : ls.length ≤ 9223372036854775807)
    (hpp : ∀ x ∈ ls, ∀ K : AV → AHeap → Prop, K (.bool (p x)) H → (ACalls Tryz.prog) f (fs ++ [propV x] ++ cs) H K) (h : K (.int .i64 (ixOf p ls 0)) H) :
    (ACalls Tryz.prog) 124 [slA k 2 (ls.map propV), .func (.func f) fs cs] H K := by
  refine acalls_go mo t124 (fun hs hu => ?_)
  simp only [c124, go_sem, Nat.reduceLeDiff, Nat.reduceAdd, Nat.reduceSub, Nat.reduceMul, Nat.reduceLT, Int.reduceLT, Int.reduceLE, Int.reduceAdd, Int.reduceSub, Int.reduceMul, Int.reduceToNat, Int.reduceNeg, Int.reduceEq, Nat.reducePow, Int.reducePow, Nat.reduceEqDiff, decide_true, decide_false, reduceIte, reduceCtorEq, Int.reduceBEq, Int.reduceBNe, bne_self_eq_false, Int.cast_ofNat_Int, Bool.not_true, Bool.not_false, IntKind.bits]
  refine stp0 ?_
  refine go_loopS mono (σ := Nat) (fun i => [(8, .int .i64 (i : Int))]) (fun i => hp H []) (fun i => i ≤ ls.length ∧ ixOf p (ls.drop i) i = ixOf p ls 0) (fun i => ls.length - i) 0 ?_ rfl ⟨by omega, rfl⟩ (fun i hi J hJ => ?_)
  · exact fgt
  obtain ⟨hil, hid⟩ := hi
  simp only [blurR_nil, blurR_some, blurR_none, blurC_region, blurC_regionN, blurC_fregion, blurT_nil, blurT_cons, blurC_seq, blurC_both, blurC_cond, blurC_block, blurC_loop, blurC_skip, blurC_exit, blurC_ret, tellS_nil, tellS_cons, List.set_cons_zero, List.set_cons_succ, tops_zero, tops_succ]
  by_cases h1 : i < ls.length
  · have ha := prop_at h1
    have hm := prop_mem h1
    rw [ixOf_drop p ls i ([], []) h1] at hid
    generalize ls.getD i ([], []) = x at *
    have hVi : propV x = .agg [.str (B x.1), .str (B x.2)] := rfl
    refine stp (And.intro ha @propV_cells) ?_
    rw [← hVi, hp_nil]
    refine hpp _ hm _ ?_
    rw [← hp_nil (H := H)]
    cases h2 : p x with
    | true =>
      rw [if_pos h2] at hid
      rw [← hid] at h
      refine stp0 ?_
      exact aret_u hs (h)
    | false =>
      rw [if_neg (by rw [h2]; exact Bool.false_ne_true)] at hid
      refine stp0 ?_
      exact hJ (i + 1) _ ⟨h1, hid⟩ (by omega) fgt
  · rw [List.drop_of_length_le (by omega)] at hid
    rw [← hid] at h
    refine stp0 ?_
    exact aret_u hs (h)
theorem kid1_a {id : Nat} {n : List UInt8} {x : Tr} (hg : H.get id = some (.row 9 0 [.str (B n)])) (h : K (.bool (nameIs n x)) H) : (ACalls Tryz.prog) 148 [x.V, .ptr id 0 0] H K := by
  refine acalls_go mo t148 (fun hs hu => ?_)
  have hlt := H.lt hg
  unfold nameIs at h
  simp only [c148, Tr.V_is, go_sem, Nat.reduceLeDiff, Nat.reduceAdd, Nat.reduceSub, Nat.reduceMul, Nat.reduceLT, Int.reduceLT, Int.reduceLE, Int.reduceAdd, Int.reduceSub, Int.reduceMul, Int.reduceToNat, Int.reduceNeg, Int.reduceEq, Nat.reducePow, Int.reducePow, Nat.reduceEqDiff, decide_true, decide_false, reduceIte, reduceCtorEq, Int.reduceBEq, Int.reduceBNe, bne_self_eq_false, Int.cast_ofNat_Int, Bool.not_true, Bool.not_false, IntKind.bits]
  refine stp (And.intro hg @B_toList) ?_
  exact aret_u hs (h)
theorem value1_a {id : Nat} {n : List UInt8} {x : List UInt8 × List UInt8} (hg : H.get id = some (.row 9 0 [.str (B n)])) (h : K (.bool (decide (x.1 = n))) H) : (ACalls Tryz.prog) 125 [propV x, .ptr id 0 0] H K := by
  refine acalls_go mo t125 (fun hs hu => ?_)
  have hlt := H.lt hg
  simp only [c125, propV, go_sem, Nat.reduceLeDiff, Nat.reduceAdd, Nat.reduceSub, Nat.reduceMul, Nat.reduceLT, Int.reduceLT, Int.reduceLE, Int.reduceAdd, Int.reduceSub, Int.reduceMul, Int.reduceToNat, Int.reduceNeg, Int.reduceEq, Nat.reducePow, Int.reducePow, Nat.reduceEqDiff, decide_true, decide_false, reduceIte, reduceCtorEq, Int.reduceBEq, Int.reduceBNe, bne_self_eq_false, Int.cast_ofNat_Int, Bool.not_true, Bool.not_false, IntKind.bits]
  refine stp (And.intro hg @B_toList) ?_
  exact aret_u hs (h)
theorem foundV_s (k : Tr) : foundV (some k) = .tup [.agg [.str (B k.name), slA k.kp 2 (k.props.map propV), slA k.kk 3 (k.kids.map Tr.V)], .bool true] := by
  rw [← Tr.V_is k]
  rfl
theorem foundV_n : foundV none = .tup [.agg [.str (B []), .nils, .nils], .bool false] := rfl
theorem Kid_a {t : Tr} (ho : TrOk t) {n : List UInt8} (h : K (foundV (kidT t n)) H) : (ACalls Tryz.prog) 96 [t.V, .str (B n)] H K := by
  refine acalls_go mo t96 (fun hs hu => ?_)
  have hkl := ho.k
  unfold kidT at h
  simp only [c96, Tr.V_is, go_sem, Nat.reduceLeDiff, Nat.reduceAdd, Nat.reduceSub, Nat.reduceMul, Nat.reduceLT, Int.reduceLT, Int.reduceLE, Int.reduceAdd, Int.reduceSub, Int.reduceMul, Int.reduceToNat, Int.reduceNeg, Int.reduceEq, Nat.reducePow, Int.reducePow, Nat.reduceEqDiff, decide_true, decide_false, reduceIte, reduceCtorEq, Int.reduceBEq, Int.reduceBNe, bne_self_eq_false, Int.cast_ofNat_Int, Bool.not_true, Bool.not_false, IntKind.bits]
  refine nindex_a (ls := t.kids) (p := nameIs n) hkl (fun x hx K hk => kid1_a (hp_get _ _ 1) hk) ?_
  rcases ixOf_find (nameIs n) tr0 t.kids 0 with ⟨h1, h2⟩ | ⟨j, h1, h2, h3⟩
  · rw [h1, foundV_n] at h
    rw [h2]
    refine stp @trRow_is ?_
    exact aret_plain hs (by simp only [u_top, u_bool, u_int, u_str, u_nilp, u_nils, u_nilf, u_nilm, u_nili, u_emp, u_byteV, u_ptr, u_wr, u_wc, u_agg, u_tup, u_rd, u_imm, u_func, u_nil, u_cons, u_app, uc_nil, uc_cons, uc_app, u_bytes, uc_bytes, u_ints, uc_ints, cells_bool, cells_int, cells_str, cells_agg, cells_ptr, cells_nils, cells_imm, cells_wr, cells_wc, cells_nilp, cells_nilf, cells_nilm, cells_rd, cells_emp, cells_byteV, cells_func, and_self, and_true, true_and, u_slA, uc_strs, cells_slA, strV_is]) h
  · have ha := tr_at h2
    rw [h3] at h
    rw [h1, Nat.zero_add]
    generalize t.kids.getD j tr0 = x at *
    rw [foundV_s] at h
    have hVc := Tr.V_cells x
    refine stp (And.intro ha hVc) ?_
    refine aret_plain hs ?_ h
    simp only [u_top, u_bool, u_int, u_str, u_nilp, u_nils, u_nilf, u_nilm, u_nili, u_emp, u_byteV, u_ptr, u_wr, u_wc, u_agg, u_tup, u_rd, u_imm, u_func, u_nil, u_cons, u_app, uc_nil, uc_cons, uc_app, u_bytes, uc_bytes, u_ints, uc_ints, cells_bool, cells_int, cells_str, cells_agg, cells_ptr, cells_nils, cells_imm, cells_wr, cells_wc, cells_nilp, cells_nilf, cells_nilm, cells_rd, cells_emp, cells_byteV, cells_func, and_self, and_true, true_and, u_slA, uc_strs, cells_slA, strV_is]
    exact ⟨props_u _ _, kids_u _ _⟩
def valV : Option (List UInt8) → AV
  | some v => .tup [.str (B v), .bool true]
  | none => .tup [.str (B []), .bool false]
theorem valV_is (x : Option (List UInt8)) : valV x = .tup [.str (B (x.getD [])), .bool x.isSome] := by cases x <;> rfl
theorem Value_a {t : Tr} (ho : TrOk t) {n : List UInt8} (h : K (valV (valT t n)) H) : (ACalls Tryz.prog) 75 [t.V, .str (B n)] H K := by
  refine acalls_go mo t75 (fun hs hu => ?_)
  have hkl := ho.p
  unfold valT at h
  simp only [c75, Tr.V_is, go_sem, Nat.reduceLeDiff, Nat.reduceAdd, Nat.reduceSub, Nat.reduceMul, Nat.reduceLT, Int.reduceLT, Int.reduceLE, Int.reduceAdd, Int.reduceSub, Int.reduceMul, Int.reduceToNat, Int.reduceNeg, Int.reduceEq, Nat.reducePow, Int.reducePow, Nat.reduceEqDiff, decide_true, decide_false, reduceIte, reduceCtorEq, Int.reduceBEq, Int.reduceBNe, bne_self_eq_false, Int.cast_ofNat_Int, Bool.not_true, Bool.not_false, IntKind.bits]
  refine prindex_a (ls := t.props) (p := fun p => decide (p.1 = n)) hkl (fun x hx K hk => value1_a (hp_get _ _ 1) hk) ?_
  rcases ixOf_find (fun p : List UInt8 × List UInt8 => decide (p.1 = n)) ([], []) t.props 0 with ⟨h1, h2⟩ | ⟨j, h1, h2, h3⟩
  · rw [h1] at h
    have h : K (.tup [.str (B []), .bool false]) H := h
    rw [h2]
    refine stp0 ?_
    exact aret_u hs (h)
  · have ha := prop_at h2
    rw [h3] at h
    rw [h1, Nat.zero_add]
    generalize t.props.getD j ([], []) = x at *
    have h : K (.tup [.str (B x.2), .bool true]) H := h
    refine stp (And.intro ha @propV_cells) ?_
    exact aret_u hs (h)
theorem rValue_a {t : Tr} (ho : TrOk t) {n : List UInt8} (h : K (valV (valT t n)) H) : (ACalls Tryz.prog) 27 [t.V, .str (B n)] H K := by
  refine value_a ho ?_
  cases hv : valT t n with
  | none => rw [hv] at h; exact h
  | some v => rw [hv] at h; exact h
theorem Find_a {t : Tr} (ho : TrOk t) {p : List UInt8} (hl : p.length < 1073741824) (h : K (foundV (findT t p)) H) : (ACalls Tryz.prog) 62 [t.V, .str (B p)] H K := by
  refine acalls_go mo t62 (fun hs hu => ?_)
  have hno : findT t p = none → K (.tup [.agg [.str (B []), .nils, .nils], .bool false]) H := fun e => by
    rw [e] at h
    exact h
  have hyes : ∀ k, findT t p = some k → K (.tup [.agg [.str (B k.name), slA k.kp 2 (k.props.map propV), slA k.kk 3 (k.kids.map Tr.V)], .bool true]) H := fun k e => by
    rw [e, foundV_s] at h
    exact h
  clear h
  unfold findT at hno hyes
  simp only [c62, Tr.V_is, go_sem, Nat.reduceLeDiff, Nat.reduceAdd, Nat.reduceSub, Nat.reduceMul, Nat.reduceLT, Int.reduceLT, Int.reduceLE, Int.reduceAdd, Int.reduceSub, Int.reduceMul, Int.reduceToNat, Int.reduceNeg, Int.reduceEq, Nat.reducePow, Int.reducePow, Nat.reduceEqDiff, decide_true, decide_false, reduceIte, reduceCtorEq, Int.reduceBEq, Int.reduceBNe, bne_self_eq_false, Int.cast_ofNat_Int, Bool.not_true, Bool.not_false, IntKind.bits]
  refine Parts_a hl (fun kk => ?_)
  cases hp1 : partsP p with
  | none =>
    rw [hp1] at hno
    have := hno rfl
    rw [partsV_n]
    refine stp0 ?_
    refine go_rounds mono 1 ?_
    simp (maxSteps := 4000000) (disch := (first | omega | (simp only [set_next, List.length_append, List.length_cons, List.length_nil, List.length_take, List.length_drop, List.length_map, List.length_set, List.length_replicate]; omega) | (simp only [set_next, ne_eq, reduceCtorEq, not_false_eq_true]))) only [rnds_succ, go_sem, Nat.reduceLeDiff, Nat.reduceAdd, Nat.reduceSub, Nat.reduceMul, Nat.reduceLT, Int.reduceLT, Int.reduceLE, Int.reduceAdd, Int.reduceSub, Int.reduceMul, Int.reduceToNat, Int.reduceNeg, Int.reduceEq, Nat.reducePow, Int.reducePow, Nat.reduceEqDiff, decide_true, decide_false, reduceIte, reduceCtorEq, Int.reduceBEq, Int.reduceBNe, bne_self_eq_false, Int.cast_ofNat_Int, Bool.not_true, Bool.not_false, IntKind.bits, w_nat, w_lit, w_add, w_addl, w_ladd, w_sub, w_subl, w_lsub, w_mul, w_mull, w_lmul, t_div, t_divl, t_mod, t_modl, i_lt, i_ltl, i_llt, i_le, i_lel, i_lle, i_eq, i_eql, i_leq, Nat.zero_le, d_beq, d_bne, d_bytes, byte_at, Int.toNat_natCast, toNat_lit, decide_eq_true, decide_eq_false, if_pos, if_neg, slA_len, slA_idx, slA_cells, flat_slA, one_slA, cells_slA, map_mid, strV_is, hp_get1, hp_get2, hp_get3, hp_set1, hp_set2, hp_set3, hp_old, hp_sold, set_got, set_set, set_next, set_other, bytesL, bytes_all, List.length_map, aapp_nils, aapp_wr, List.flatMap_cons, List.flatMap_nil, Nat.mul_one]
    exact aret_plain hs (by simp only [u_top, u_bool, u_int, u_str, u_nilp, u_nils, u_nilf, u_nilm, u_nili, u_emp, u_byteV, u_ptr, u_wr, u_wc, u_agg, u_tup, u_rd, u_imm, u_func, u_nil, u_cons, u_app, uc_nil, uc_cons, uc_app, u_bytes, uc_bytes, u_ints, uc_ints, cells_bool, cells_int, cells_str, cells_agg, cells_ptr, cells_nils, cells_imm, cells_wr, cells_wc, cells_nilp, cells_nilf, cells_nilm, cells_rd, cells_emp, cells_byteV, cells_func, and_self, and_true, true_and, u_slA, uc_strs, cells_slA, strV_is]) this
  | some ns =>
    rw [hp1] at hno hyes
    simp only at hno hyes
    have hn8 := partsP_le hp1
    rw [partsV_s]
    refine stp0 ?_
    refine go_loopS mono (σ := Tr × Bool × Nat) (fun z => [(7, .bool z.2.1), (17, .int .i64 (z.2.2 : Int))]) (fun z => hp H [trRow z.1, trRow tr0]) (fun z => TrOk z.1 ∧ z.2.2 ≤ ns.length ∧ (z.2.1 = true → walkTo z.1 (ns.drop z.2.2) = walkTo t ns) ∧ (z.2.1 = false → walkTo t ns = none)) (fun z => ns.length - z.2.2) (t, true, 0) ?_ rfl ⟨ho, Nat.zero_le _, fun _ => rfl, fun e => by cases e⟩ (fun z hz J hJ => ?_)
    · exact fgt
    obtain ⟨cur, ok, i⟩ := z
    obtain ⟨hok, hil, hw1, hw2⟩ := hz
    simp only at hok hil hw1 hw2
    have hr0 : trRow tr0 = .row 25 0 [.str (B []), .nils, .nils] := rfl
    simp only [blurR_nil, blurR_some, blurR_none, blurC_region, blurC_regionN, blurC_fregion, blurT_nil, blurT_cons, blurC_seq, blurC_both, blurC_cond, blurC_block, blurC_loop, blurC_skip, blurC_exit, blurC_ret, tellS_nil, tellS_cons, List.set_cons_zero, List.set_cons_succ, tops_zero, tops_succ]
    by_cases h1 : i < ns.length
    · have ha := strs_at h1
      cases ok with
      | false =>
        refine stp ha ?_
        exact hJ (cur, false, i + 1) _ ⟨hok, h1, fun e => (by cases e), hw2⟩ (by show ns.length - (i + 1) < ns.length - i; omega) fgt
      | true =>
        have hw := hw1 rfl
        have hd : ns.drop i = ns.getD i [] :: ns.drop (i + 1) := by rw [List.drop_eq_getElem_cons h1, List.getD_eq_getElem?_getD, List.getElem?_eq_getElem h1]; rfl
        rw [hd, walkTo] at hw
        generalize ns.getD i [] = n at *
        have hVi := Tr.V_is cur
        simp (maxSteps := 4000000) (disch := (first | omega | (simp only [set_next, List.length_append, List.length_cons, List.length_nil, List.length_take, List.length_drop, List.length_map, List.length_set, List.length_replicate]; omega) | (simp only [set_next, ne_eq, reduceCtorEq, not_false_eq_true]))) only [ha, trRow_is cur, hr0, go_sem, Nat.reduceLeDiff, Nat.reduceAdd, Nat.reduceSub, Nat.reduceMul, Nat.reduceLT, Int.reduceLT, Int.reduceLE, Int.reduceAdd, Int.reduceSub, Int.reduceMul, Int.reduceToNat, Int.reduceNeg, Int.reduceEq, Nat.reducePow, Int.reducePow, Nat.reduceEqDiff, decide_true, decide_false, reduceIte, reduceCtorEq, Int.reduceBEq, Int.reduceBNe, bne_self_eq_false, Int.cast_ofNat_Int, Bool.not_true, Bool.not_false, IntKind.bits, w_nat, w_lit, w_add, w_addl, w_ladd, w_sub, w_subl, w_lsub, w_mul, w_mull, w_lmul, t_div, t_divl, t_mod, t_modl, i_lt, i_ltl, i_llt, i_le, i_lel, i_lle, i_eq, i_eql, i_leq, Nat.zero_le, d_beq, d_bne, d_bytes, byte_at, Int.toNat_natCast, toNat_lit, decide_eq_true, decide_eq_false, if_pos, if_neg, slA_len, slA_idx, slA_cells, flat_slA, one_slA, cells_slA, map_mid, strV_is, hp_get1, hp_get2, hp_get3, hp_set1, hp_set2, hp_set3, hp_old, hp_sold, set_got, set_set, set_next, set_other, bytesL, bytes_all, List.length_map, aapp_nils, aapp_wr, List.flatMap_cons, List.flatMap_nil, Nat.mul_one]
        rw [← hVi]
        refine Kid_a hok ?_
        cases hk : kidT cur n with
        | none =>
          rw [hk] at hw
          rw [foundV_n]
          refine stp0 ?_
          rw [← hr0]
          exact hJ (tr0, false, i + 1) _ ⟨TrOk_0, h1, fun e => (by cases e), fun _ => hw.symm⟩ (by show ns.length - (i + 1) < ns.length - i; omega) fgt
        | some k =>
          rw [hk] at hw
          simp only at hw
          have hko := kidT_ok hok hk
          rw [foundV_s]
          refine stp0 ?_
          rw [← hr0, ← trRow_is]
          exact hJ (k, true, i + 1) _ ⟨hko, h1, fun _ => hw, fun e => by cases e⟩ (by show ns.length - (i + 1) < ns.length - i; omega) fgt
    · cases ok with
      | false =>
        have := hno (hw2 rfl)
        simp (maxSteps := 4000000) (disch := (first | omega | (simp only [set_next, List.length_append, List.length_cons, List.length_nil, List.length_take, List.length_drop, List.length_map, List.length_set, List.length_replicate]; omega) | (simp only [set_next, ne_eq, reduceCtorEq, not_false_eq_true]))) only [trRow_is cur, hr0, go_sem, Nat.reduceLeDiff, Nat.reduceAdd, Nat.reduceSub, Nat.reduceMul, Nat.reduceLT, Int.reduceLT, Int.reduceLE, Int.reduceAdd, Int.reduceSub, Int.reduceMul, Int.reduceToNat, Int.reduceNeg, Int.reduceEq, Nat.reducePow, Int.reducePow, Nat.reduceEqDiff, decide_true, decide_false, reduceIte, reduceCtorEq, Int.reduceBEq, Int.reduceBNe, bne_self_eq_false, Int.cast_ofNat_Int, Bool.not_true, Bool.not_false, IntKind.bits, w_nat, w_lit, w_add, w_addl, w_ladd, w_sub, w_subl, w_lsub, w_mul, w_mull, w_lmul, t_div, t_divl, t_mod, t_modl, i_lt, i_ltl, i_llt, i_le, i_lel, i_lle, i_eq, i_eql, i_leq, Nat.zero_le, d_beq, d_bne, d_bytes, byte_at, Int.toNat_natCast, toNat_lit, decide_eq_true, decide_eq_false, if_pos, if_neg, slA_len, slA_idx, slA_cells, flat_slA, one_slA, cells_slA, map_mid, strV_is, hp_get1, hp_get2, hp_get3, hp_set1, hp_set2, hp_set3, hp_old, hp_sold, set_got, set_set, set_next, set_other, bytesL, bytes_all, List.length_map, aapp_nils, aapp_wr, List.flatMap_cons, List.flatMap_nil, Nat.mul_one]
        exact aret_plain hs (by simp only [u_top, u_bool, u_int, u_str, u_nilp, u_nils, u_nilf, u_nilm, u_nili, u_emp, u_byteV, u_ptr, u_wr, u_wc, u_agg, u_tup, u_rd, u_imm, u_func, u_nil, u_cons, u_app, uc_nil, uc_cons, uc_app, u_bytes, uc_bytes, u_ints, uc_ints, cells_bool, cells_int, cells_str, cells_agg, cells_ptr, cells_nils, cells_imm, cells_wr, cells_wc, cells_nilp, cells_nilf, cells_nilm, cells_rd, cells_emp, cells_byteV, cells_func, and_self, and_true, true_and, u_slA, uc_strs, cells_slA, strV_is]) this
      | true =>
        have hw := hw1 rfl
        rw [List.drop_of_length_le (by omega), walkTo] at hw
        have := hyes _ hw.symm
        simp (maxSteps := 4000000) (disch := (first | omega | (simp only [set_next, List.length_append, List.length_cons, List.length_nil, List.length_take, List.length_drop, List.length_map, List.length_set, List.length_replicate]; omega) | (simp only [set_next, ne_eq, reduceCtorEq, not_false_eq_true]))) only [trRow_is cur, hr0, go_sem, Nat.reduceLeDiff, Nat.reduceAdd, Nat.reduceSub, Nat.reduceMul, Nat.reduceLT, Int.reduceLT, Int.reduceLE, Int.reduceAdd, Int.reduceSub, Int.reduceMul, Int.reduceToNat, Int.reduceNeg, Int.reduceEq, Nat.reducePow, Int.reducePow, Nat.reduceEqDiff, decide_true, decide_false, reduceIte, reduceCtorEq, Int.reduceBEq, Int.reduceBNe, bne_self_eq_false, Int.cast_ofNat_Int, Bool.not_true, Bool.not_false, IntKind.bits, w_nat, w_lit, w_add, w_addl, w_ladd, w_sub, w_subl, w_lsub, w_mul, w_mull, w_lmul, t_div, t_divl, t_mod, t_modl, i_lt, i_ltl, i_llt, i_le, i_lel, i_lle, i_eq, i_eql, i_leq, Nat.zero_le, d_beq, d_bne, d_bytes, byte_at, Int.toNat_natCast, toNat_lit, decide_eq_true, decide_eq_false, if_pos, if_neg, slA_len, slA_idx, slA_cells, flat_slA, one_slA, cells_slA, map_mid, strV_is, hp_get1, hp_get2, hp_get3, hp_set1, hp_set2, hp_set3, hp_old, hp_sold, set_got, set_set, set_next, set_other, bytesL, bytes_all, List.length_map, aapp_nils, aapp_wr, List.flatMap_cons, List.flatMap_nil, Nat.mul_one]
        refine aret_plain hs ?_ this
        simp only [u_top, u_bool, u_int, u_str, u_nilp, u_nils, u_nilf, u_nilm, u_nili, u_emp, u_byteV, u_ptr, u_wr, u_wc, u_agg, u_tup, u_rd, u_imm, u_func, u_nil, u_cons, u_app, uc_nil, uc_cons, uc_app, u_bytes, uc_bytes, u_ints, uc_ints, cells_bool, cells_int, cells_str, cells_agg, cells_ptr, cells_nils, cells_imm, cells_wr, cells_wc, cells_nilp, cells_nilf, cells_nilm, cells_rd, cells_emp, cells_byteV, cells_func, and_self, and_true, true_and, u_slA, uc_strs, cells_slA, strV_is]
        exact ⟨props_u _ _, kids_u _ _⟩
end
theorem findT_ok {t k : Tr} {p : List UInt8} (ho : TrOk t) (h : findT t p = some k) : TrOk k := by
  unfold findT at h
  split at h
  · exact walkTo_ok ho h
  · cases h
/-- The value of that name at that path. -/
def atT (t : Tr) (p n : List UInt8) : List UInt8 := ((valT ((findT t p).getD tr0) n).getD [])
theorem foundV_is (x : Option Tr) : foundV x = .tup [.agg [.str (B (x.getD tr0).name), slA (x.getD tr0).kp 2 ((x.getD tr0).props.map propV), slA (x.getD tr0).kk 3 ((x.getD tr0).kids.map Tr.V)], .bool x.isSome] := by
  cases x with
  | none => exact foundV_n
  | some k => exact foundV_s k
theorem getD_ok {x : Option Tr} (h : ∀ k, x = some k → TrOk k) : TrOk (x.getD tr0) := by
  cases x with
  | none => exact TrOk_0
  | some k => exact h k rfl
section
variable {H : AHeap} {K : AV → AHeap → Prop}
theorem Text_a {t : Tr} (ho : TrOk t) {p n : List UInt8} (hl : p.length < 1073741824) (hv : (atT t p n).length < 1073741824) (h : K (textV (asText (atT t p n))) H) : (ACalls Tryz.prog) 84 [t.V, .str (B p), .str (B n)] H K := by
  refine acalls_go mo t84 (fun hs hu => ?_)
  have hVi := Tr.V_is t
  simp only [c84, Tr.V_is, go_sem, Nat.reduceLeDiff, Nat.reduceAdd, Nat.reduceSub, Nat.reduceMul, Nat.reduceLT, Int.reduceLT, Int.reduceLE, Int.reduceAdd, Int.reduceSub, Int.reduceMul, Int.reduceToNat, Int.reduceNeg, Int.reduceEq, Nat.reducePow, Int.reducePow, Nat.reduceEqDiff, decide_true, decide_false, reduceIte, reduceCtorEq, Int.reduceBEq, Int.reduceBNe, bne_self_eq_false, Int.cast_ofNat_Int, Bool.not_true, Bool.not_false, IntKind.bits]
  rw [← hVi]
  refine Find_a ho hl ?_
  rw [foundV_is]
  have hfo := getD_ok fun k hk => findT_ok (p := p) ho hk
  have hat : atT t p n = (valT ((findT t p).getD tr0) n).getD [] := rfl
  generalize (findT t p).getD tr0 = f at *
  generalize (findT t p).isSome = b at *
  have hVf := Tr.V_is f
  refine stp0 ?_
  rw [← hVf]
  refine Value_a hfo ?_
  rw [valV_is, ← hat]
  generalize atT t p n = v at *
  refine stp0 ?_
  refine asText_a hv ?_
  rw [textV_is] at h ⊢
  refine stp0 ?_
  exact aret_u hs (h)
theorem join_sl {k : Nat} {ws : List (List UInt8)} {sep : List UInt8} (hN : ws.length ≤ 140737488355328) (hl : (Lib.join ws sep).length ≤ 140737488355328) (h : K (.str (B (Lib.join ws sep))) H) : (ACalls Tryz.prog) 135 [slA k 1 (ws.map strV), .str (B sep)] H K := by
  cases ws with
  | nil =>
    refine acalls_go mo t135 (fun hs hu => ?_)
    have h : K (.str (B [])) H := h
    simp only [c135, List.map_nil, go_sem, Nat.reduceLeDiff, Nat.reduceAdd, Nat.reduceSub, Nat.reduceMul, Nat.reduceLT, Int.reduceLT, Int.reduceLE, Int.reduceAdd, Int.reduceSub, Int.reduceMul, Int.reduceToNat, Int.reduceNeg, Int.reduceEq, Nat.reducePow, Int.reducePow, Nat.reduceEqDiff, decide_true, decide_false, reduceIte, reduceCtorEq, Int.reduceBEq, Int.reduceBNe, bne_self_eq_false, Int.cast_ofNat_Int, Bool.not_true, Bool.not_false, IntKind.bits]
    refine stp0 ?_
    exact aret_u hs (h)
  | cons w ws => exact join_a t135 (List.cons_ne_nil _ _) hN hl h
end
/-! ### trees that are handed in -/
theorem openAt_struct {P : Program} {t : TypeId} {fs : Array Field} {sz n : Nat} {Y : List AV → Prop} (hu : P.underlying t = some (.struct fs)) (hc : P.cellsOf t = sz) (h : FieldsAt P fs.toList 0 sz Y n) : OpenAt P t Y (n + 1) := by
  intro H enc W cs x hx
  obtain ⟨xs, m, hm, _, hl, hxl, hxs⟩ := DataW.trod_struct hu hx
  have hnm : n = m := by omega
  subst hnm
  obtain ⟨ys, ha, hw⟩ := h H enc W cs (fun f hf => by
    obtain ⟨i, hi⟩ := List.getElem?_of_mem hf
    have hi' : fs[i]? = some f := by simpa using hi
    have hlt : i < xs.length := by rw [hxl]; exact (Array.getElem?_eq_some_iff.1 hi').1
    exact ⟨xs[i], (hxs i f hi').trans (List.getElem?_eq_getElem hlt)⟩) (by omega)
  exact ⟨ys, ha, hw⟩
theorem openAt_zero {P : Program} {t : TypeId} {fs : Array Field} {Y : List AV → Prop} (hu : P.underlying t = some (.struct fs)) : OpenAt P t Y 0 := by
  intro H enc W cs x hx
  simp [DataW.trod] at hx
theorem openAt_mono {P : Program} {t : TypeId} {Y Y' : List AV → Prop} {n : Nat} (hw : ∀ a, Y a → Y' a) (h : OpenAt P t Y n) : OpenAt P t Y' n := by
  intro H enc W cs x hx
  obtain ⟨a, ha, hwa⟩ := h H enc W cs x hx
  exact ⟨a, ha, hw a hwa⟩
theorem openAt_zsl {P : Program} {t e : TypeId} {Y : List AV → Prop} (hu : P.underlying t = some (.slice e)) : OpenAt P t Y 0 := by
  intro H enc W cs x hx
  simp [DataW.trod] at hx
theorem openAt_slQ {P : Program} {t e : TypeId} {α : Type} {f : α → List AV} {g : α → AV} {Q : α → Prop} {Y : List AV → Prop} {sz n : Nat} (pk : List AV → AV) (hu : P.underlying t = some (.slice e)) (hc : P.cellsOf e = sz) (h0 : 0 < sz) (hY : ∀ ys, Y ys → ∃ a, Q a ∧ ys = f a) (hg : ∀ a, pk (f a) = g a) (hf : ∀ a, (g a).cells = f a) (h : OpenAt P e Y n) :
    OpenAt P t (fun zs => ∃ (k : Nat) (l : List α), zs = [slA k sz (l.map g)] ∧ l.length ≤ 9223372036854775807 ∧ ∀ a ∈ l, Q a) (n + 1) := by
  refine openAt_mono (fun zs hz => ?_) (openAt_slice pk hu hc h0 (fun ys hy => ?_) h)
  · rcases hz with rfl | rfl | ⟨xs, h1, h2, rfl, h3⟩
    · exact ⟨0, [], rfl, by simp, by simp⟩
    · exact ⟨1, [], rfl, by simp, by simp⟩
    · obtain ⟨l, hl, rfl⟩ := map_ofQ hY xs (fun ys hy => (h3 ys hy).1)
      refine ⟨2, l, ?_, by simpa using h2, hl⟩
      rw [List.map_map, show pk ∘ f = g from funext hg]
      cases l <;> rfl
  · obtain ⟨a, hq, rfl⟩ := hY ys hy
    rw [hg, hf]
def YStr (a : List AV) : Prop := ∃ s : ByteArray, s.size ≤ 9223372036854775807 ∧ a = [.str s]
def YPr (zs : List AV) : Prop := ∃ a a2 : List AV, zs = a ++ a2 ∧ YStr a ∧ YStr a2
def PrOk (p : List UInt8 × List UInt8) : Prop := p.1.length ≤ 9223372036854775807 ∧ p.2.length ≤ 9223372036854775807
theorem openPr : Opens Tryz.prog 55 YPr :=
  opens_struct (sz := 1 + 1) Tryz.underlying55 (by kernel_rfl) (fun n => fields_cons rfl (by kernel_rfl) (opens_str Tryz.underlying9 n) (fields_one rfl (by kernel_rfl) (opens_str Tryz.underlying9 n)))
def YPrs (zs : List AV) : Prop := ∃ (k : Nat) (l : List (List UInt8 × List UInt8)), zs = [slA k 2 (l.map propV)] ∧ l.length ≤ 9223372036854775807 ∧ ∀ p ∈ l, PrOk p
theorem openPrs : Opens Tryz.prog 22 YPrs :=
  opens_slQ (f := fun p => [.str (B p.1), .str (B p.2)]) (g := propV) (Q := PrOk) .agg Tryz.underlying22 (by kernel_rfl) (by decide) (fun ys hy => by
    obtain ⟨_, _, rfl, ⟨s, hs, rfl⟩, ⟨s2, hs2, rfl⟩⟩ := hy
    exact ⟨(s.data.toList, s2.data.toList), ⟨hs, hs2⟩, by simp [B_of]⟩) (fun _ => rfl) (fun _ => rfl) openPr
def YTr (zs : List AV) : Prop := ∃ t, TrOk t ∧ zs = t.cells
def YTrs (zs : List AV) : Prop := ∃ (k : Nat) (l : List Tr), zs = [slA k 3 (l.map Tr.V)] ∧ l.length ≤ 9223372036854775807 ∧ ∀ t ∈ l, TrOk t
theorem openAt_tr : ∀ n, OpenAt Tryz.prog 25 YTr n ∧ OpenAt Tryz.prog 23 YTrs n
  | 0 => ⟨openAt_zero Tryz.underlying25, openAt_zsl Tryz.underlying23⟩
  | n + 1 => by
    obtain ⟨ih1, ih2⟩ := openAt_tr n
    refine ⟨?_, ?_⟩
    · refine openAt_mono (fun zs hz => ?_) (openAt_struct (sz := 1 + (1 + 1)) Tryz.underlying25 (by kernel_rfl) (fields_cons rfl (by kernel_rfl) (opens_str Tryz.underlying9 n) (fields_cons rfl (by kernel_rfl) (openPrs n) (fields_one rfl (by kernel_rfl) ih2))))
      obtain ⟨_, _, rfl, ⟨s, hs, rfl⟩, _, _, rfl, ⟨kp, ps, rfl, hps, hpo⟩, ⟨kk, ks, rfl, hks, hko⟩⟩ := hz
      refine ⟨.mk s.data.toList kp ps kk ks, .mk _ _ _ _ _ hs hps hpo hks hko, ?_⟩
      rw [Tr.cells_is]
      rfl
    · exact openAt_slQ (f := Tr.cells) (g := Tr.V) (Q := TrOk) .agg Tryz.underlying23 (by kernel_rfl) (by decide) (fun ys hy => hy) (fun _ => rfl) (fun _ => rfl) ih1
theorem openTr : Opens Tryz.prog 25 YTr := fun n => (openAt_tr n).1
def joinPs (ls : List (List UInt8)) : List UInt8 := 47 :: Lib.join ls [47]
def accP (ls : List (List UInt8)) : List UInt8 := ls.flatMap fun s => 47 :: s
theorem accP_cons (s : List UInt8) (ls : List (List UInt8)) : accP (s :: ls) = 47 :: s ++ accP ls := rfl
theorem accP_tail : ∀ ls : List (List UInt8), accP ls = Lib.joinTail [47] ls
  | [] => rfl
  | s :: ls => by rw [accP_cons, accP_tail ls]; simp [Lib.joinTail]
theorem accP_join {ls : List (List UInt8)} (h : ls ≠ []) : accP ls = joinPs ls := by
  cases ls with
  | nil => cases h rfl
  | cons s ls =>
    unfold joinPs
    rw [accP_cons, Lib.join_cons, accP_tail]
    rfl
theorem accP_len {m : Nat} : ∀ ls : List (List UInt8), (∀ s ∈ ls, s.length ≤ m) → (accP ls).length ≤ ls.length * (m + 1)
  | [], _ => Nat.zero_le _
  | s :: ls, h => by
    have h1 := accP_len ls (fun x hx => h x (List.mem_cons_of_mem _ hx))
    have h2 := h s (List.mem_cons_self ..)
    rw [accP_cons, List.length_append, List.length_cons, List.length_cons, Nat.succ_mul]
    omega
theorem joinPs_len {m : Nat} {ls : List (List UInt8)} (h : ∀ s ∈ ls, s.length ≤ m) : (joinPs ls).length ≤ ls.length * (m + 1) + 1 := by
  by_cases h0 : ls = []
  · rw [h0]
    exact Nat.le_of_ble_eq_true (by rfl)
  · rw [← accP_join h0]
    have := accP_len ls h
    omega
section
variable {H : AHeap} {K : AV → AHeap → Prop}
theorem Join_a {k : Nat} {ls : List (List UInt8)} (hn : ls.length ≤ 65536) (hb : ∀ s ∈ ls, s.length ≤ 65536) (h : K (.str (B (joinPs ls))) H) : (ACalls Tryz.prog) 83 [slA k 1 (ls.map strV)] H K := by
  refine acalls_go mo t83 (fun hs hu => ?_)
  have hl := joinPs_len hb
  have hl2 : (Lib.join ls [47]).length + 1 = (joinPs ls).length := by unfold joinPs; rw [List.length_cons]
  have hm := Nat.mul_le_mul_right 65537 hn
  simp only [c83, go_sem, Nat.reduceLeDiff, Nat.reduceAdd, Nat.reduceSub, Nat.reduceMul, Nat.reduceLT, Int.reduceLT, Int.reduceLE, Int.reduceAdd, Int.reduceSub, Int.reduceMul, Int.reduceToNat, Int.reduceNeg, Int.reduceEq, Nat.reducePow, Int.reducePow, Nat.reduceEqDiff, decide_true, decide_false, reduceIte, reduceCtorEq, Int.reduceBEq, Int.reduceBNe, bne_self_eq_false, Int.cast_ofNat_Int, Bool.not_true, Bool.not_false, IntKind.bits]
  refine join_sl (by omega) (by omega) ?_
  have e : joinPs ls = [47] ++ Lib.join ls [47] := rfl
  rw [e] at h hl hl2
  generalize Lib.join ls [47] = j at *
  refine stp0 ?_
  exact aret_u hs (h)
theorem rJoin_a {k : Nat} {ls : List (List UInt8)} (hn : ls.length ≤ 65536) (hb : ∀ s ∈ ls, s.length ≤ 65536) (h : K (.str (B (joinPs ls))) H) : (ACalls Tryz.prog) 48 [slA k 1 (ls.map strV)] H K := by
  refine acalls_go mo t48 (fun hs hu => ?_)
  simp only [c48, go_sem, Nat.reduceLeDiff, Nat.reduceAdd, Nat.reduceSub, Nat.reduceMul, Nat.reduceLT, Int.reduceLT, Int.reduceLE, Int.reduceAdd, Int.reduceSub, Int.reduceMul, Int.reduceToNat, Int.reduceNeg, Int.reduceEq, Nat.reducePow, Int.reducePow, Nat.reduceEqDiff, decide_true, decide_false, reduceIte, reduceCtorEq, Int.reduceBEq, Int.reduceBNe, bne_self_eq_false, Int.cast_ofNat_Int, Bool.not_true, Bool.not_false, IntKind.bits]
  refine go_loopS mono (σ := Nat) (fun i => [(3, .str (B (accP (ls.take i)))), (4, .int .i64 (i : Int))]) (fun i => hp H []) (fun i => i ≤ ls.length) (fun i => ls.length - i) 0 ?_ rfl (Nat.zero_le _) (fun i hi J hJ => ?_)
  · exact fgt
  have hil : i ≤ ls.length := hi
  simp only [blurR_nil, blurR_some, blurR_none, blurC_region, blurC_regionN, blurC_fregion, blurT_nil, blurT_cons, blurC_seq, blurC_both, blurC_cond, blurC_block, blurC_loop, blurC_skip, blurC_exit, blurC_ret, tellS_nil, tellS_cons, List.set_cons_zero, List.set_cons_succ, tops_zero, tops_succ]
  by_cases h1 : i < ls.length
  · have ha := strs_at h1
    have hxb : (ls.getD i []).length ≤ 65536 := hb _ (by rw [List.getD_eq_getElem?_getD, List.getElem?_eq_getElem h1]; exact List.getElem_mem h1)
    have hlen := accP_len (ls.take i) (fun s hs => hb s (List.mem_of_mem_take hs))
    rw [List.length_take] at hlen
    have htk : accP (ls.take (i + 1)) = accP (ls.take i) ++ [47] ++ ls.getD i [] := by
      rw [List.take_add_one, List.getElem?_eq_getElem h1, List.append_assoc, List.getD_eq_getElem?_getD, List.getElem?_eq_getElem h1]
      unfold accP
      rw [List.flatMap_append]
      simp
    have hJ2 := hJ (i + 1)
    clear hJ
    rw [htk] at hJ2
    generalize ls.getD i [] = s at *
    generalize accP (ls.take i) = o at *
    refine stp ha ?_
    exact hJ2 _ h1 (by omega) fgt
  · rw [List.take_of_length_le (by omega)]
    by_cases h0 : ls = []
    · rw [h0] at h
      have h : K (.str (B [47])) H := h
      rw [h0]
      simp only [List.map_nil]
      refine stp0 ?_
      exact aret_u hs (h)
    · have h2 := List.length_pos_iff.2 h0
      rw [← accP_join h0] at h
      refine stp0 ?_
      exact aret_u hs (h)
end
section
variable {H : AHeap} {K : AV → AHeap → Prop}
theorem rParts_a {p : List UInt8} (hl : p.length < 9223372036854775807) (h : ∀ k, K (partsV k (partsP p)) H) : (ACalls Tryz.prog) 47 [.str (B p)] H K := by
  refine parts_a hl (fun k => ?_)
  have := h k
  cases hp1 : partsP p with
  | none => rw [hp1] at this; exact this
  | some ns => rw [hp1] at this; exact this
end
def goodN (n : List UInt8) : Prop := n ≠ [] ∧ (47 : UInt8) ∉ n
def pathOf (ns : List (List UInt8)) : List UInt8 := if ns = [] then [47] else ns.flatMap (fun n => 47 :: n)
theorem scanP_name (out : List (List UInt8)) (rest : List UInt8) : ∀ (n cur : List UInt8), (47 : UInt8) ∉ n → scanP cur out (n ++ rest) = scanP (cur ++ n) out rest
  | [], cur, _ => by rw [List.append_nil, List.nil_append]
  | c :: n, cur, h => by
    rw [List.cons_append, scanP, if_neg (fun e => h (by rw [e]; exact List.mem_cons_self)), scanP_name out rest n _ (fun q => h (List.mem_cons_of_mem _ q)), List.append_assoc]
    rfl
theorem scanP_path : ∀ (ns : List (List UInt8)) (n : List UInt8) (out : List (List UInt8)), goodN n → (∀ x ∈ ns, goodN x) → out.length + ns.length + 1 ≤ 7 → scanP [] out (n ++ ns.flatMap (fun n => 47 :: n)) = some (out ++ n :: ns)
  | [], n, out, hn, hg, hl => by
    rw [List.flatMap_nil, scanP_name _ _ _ _ hn.2, List.nil_append, scanP, if_neg]
    rintro (q | q)
    · exact hn.1 q
    · simp only [List.length_nil] at hl
      omega
  | m :: ns, n, out, hn, hg, hl => by
    simp only [List.length_cons] at hl
    rw [List.flatMap_cons, scanP_name _ _ _ _ hn.2, List.nil_append, List.cons_append, scanP, if_pos rfl, if_neg (by rintro (q | q); exact hn.1 q; omega), scanP_path ns m (out ++ [n]) (hg m List.mem_cons_self) (fun x hx => hg x (List.mem_cons_of_mem _ hx)) (by rw [List.length_append, List.length_singleton]; omega), List.append_assoc]
    rfl
theorem partsP_path {ns : List (List UInt8)} (hg : ∀ x ∈ ns, goodN x) (hl : ns.length ≤ 7) : partsP (pathOf ns) = some ns := by
  unfold partsP
  cases ns with
  | nil => rfl
  | cons n ns =>
    have hn := hg n List.mem_cons_self
    have e : pathOf (n :: ns) = 47 :: (n ++ ns.flatMap (fun n => 47 :: n)) := by
      unfold pathOf
      rw [if_neg (by simp), List.flatMap_cons]
      rfl
    rw [e, if_neg (fun q => hn.1 (by have := (List.cons.inj q).2; exact (List.append_eq_nil_iff.1 this).1)), if_pos (show (47 :: (n ++ ns.flatMap (fun n => 47 :: n)) : List UInt8).getD 0 0 = 47 from rfl)]
    show scanP [] [] (n ++ _) = _
    rw [scanP_path ns n [] hn (fun x hx => hg x (List.mem_cons_of_mem _ hx)) (by simp only [List.length_cons] at hl; simp only [List.length_nil]; omega)]
    rfl
theorem low12 {t : Tr} (h : tLow t = true) : tlow 12 t = true := by
  unfold tLow at h
  rw [Bool.and_eq_true] at h
  exact h.1
theorem splitA_ne (c : UInt8) : ∀ (l acc : List UInt8), splitA c acc l ≠ []
  | [], acc => by simp [splitA]
  | b :: l, acc => by
    rw [splitA]
    split
    · simp
    · exact splitA_ne c l _
theorem splitA_join (c : UInt8) : ∀ (l acc : List UInt8), Lib.join (splitA c acc l) [c] = acc ++ l
  | [], acc => by simp [splitA, Lib.join_cons, Lib.joinTail]
  | b :: l, acc => by
    rw [splitA]
    by_cases h : b = c
    · rw [if_pos h, Lib.join_cons]
      have ih := splitA_join c l []
      obtain ⟨x, r, e⟩ := List.exists_cons_of_ne_nil (splitA_ne c l [])
      rw [e] at ih ⊢
      rw [Lib.join_cons] at ih
      have h3 : Lib.joinTail [c] (x :: r) = ([c] ++ x) ++ Lib.joinTail [c] r := by simp [Lib.joinTail]
      rw [h3, List.append_assoc, ih, h]
      rfl
    · rw [if_neg h, splitA_join c l, List.append_assoc]
      rfl
theorem parts_join {p : List UInt8} {ns : List (List UInt8)} (h : partsP p = some ns) : joinPs ns = p := by
  unfold partsP at h
  by_cases h1 : p = [47]
  · rw [if_pos h1] at h
    obtain rfl := Option.some.inj h
    rw [h1]
    rfl
  · rw [if_neg h1] at h
    by_cases h2 : p.getD 0 0 = 47
    · rw [if_pos h2, scan_split _ _ _ (by simp), List.nil_append] at h
      split at h
      · obtain rfl := Option.some.inj h
        unfold joinPs
        rw [splitA_join, List.nil_append]
        cases p with
        | nil => revert h2; decide
        | cons c r =>
          have h2 : c = 47 := h2
          rw [h2]
          rfl
      · cases h
    · rw [if_neg h2] at h
      cases h
theorem accP_mem : ∀ {ls : List (List UInt8)} {s : List UInt8}, s ∈ ls → s.length ≤ (accP ls).length
  | x :: ls, s, h => by
    rw [accP_cons, List.length_append, List.length_cons]
    rcases List.mem_cons.1 h with e | e
    · rw [e]; omega
    · have := accP_mem e
      omega
theorem parts_mem {p : List UInt8} {ns : List (List UInt8)} (h : partsP p = some ns) : ∀ s ∈ ns, s.length ≤ p.length := fun s hs => by
  rw [← parts_join h, ← accP_join (fun e => by rw [e] at hs; cases hs)]
  exact accP_mem hs
theorem splitA_free (c : UInt8) : ∀ (l acc : List UInt8), c ∉ acc → ∀ s ∈ splitA c acc l, c ∉ s
  | [], acc, h, s, hs => by
    rw [splitA, List.mem_singleton] at hs
    rw [hs]
    exact h
  | b :: l, acc, h, s, hs => by
    rw [splitA] at hs
    split at hs
    · rcases List.mem_cons.1 hs with e | e
      · rw [e]; exact h
      · exact splitA_free c l [] (by simp) s e
    · rename_i hb
      exact splitA_free c l (acc ++ [b]) (by simp [h]; exact fun q => hb q.symm) s hs
theorem parts_good {p : List UInt8} {ns : List (List UInt8)} (h : partsP p = some ns) : ∀ s ∈ ns, goodN s := by
  unfold partsP at h
  by_cases h1 : p = [47]
  · rw [if_pos h1] at h
    obtain rfl := Option.some.inj h
    simp
  · rw [if_neg h1] at h
    by_cases h2 : p.getD 0 0 = 47
    · rw [if_pos h2, scan_split _ _ _ (by simp), List.nil_append] at h
      split at h
      · rename_i hc
        obtain rfl := Option.some.inj h
        refine fun s hs => ⟨fun e => ?_, splitA_free 47 _ [] (by simp) s hs⟩
        rw [e] at hs
        have := hc.1
        rw [List.contains_iff_mem.2 hs] at this
        cases this
      · cases h
    · rw [if_neg h2] at h
      cases h
theorem path_join {ns : List (List UInt8)} : pathOf ns = joinPs ns := by
  unfold pathOf
  split
  · rename_i h
    rw [h]
    rfl
  · rename_i h
    rw [← accP_join h]
    rfl
theorem parts_le7 {p : List UInt8} {ns : List (List UInt8)} (h : partsP p = some ns) : ns.length ≤ 7 := by
  unfold partsP at h
  by_cases h1 : p = [47]
  · rw [if_pos h1] at h
    obtain rfl := Option.some.inj h
    exact Nat.zero_le _
  · rw [if_neg h1] at h
    by_cases h2 : p.getD 0 0 = 47
    · rw [if_pos h2, scan_split _ _ _ (by simp), List.nil_append] at h
      split at h
      · rename_i hc
        obtain rfl := Option.some.inj h
        have := hc.2
        simpa using this
      · cases h
    · rw [if_neg h2] at h
      cases h
/-- The path of the first ones is read as them. -/
theorem parts_take {p : List UInt8} {ns : List (List UInt8)} (h : partsP p = some ns) (k : Nat) : partsP (joinPs (ns.take k)) = some (ns.take k) := by
  rw [← path_join]
  have h8 := parts_le7 h
  exact partsP_path (fun s hs => parts_good h s (List.mem_of_mem_take hs)) (by rw [List.length_take]; omega)
theorem accP_take_le : ∀ (ls : List (List UInt8)) (i : Nat), (accP (ls.take i)).length ≤ (accP ls).length
  | [], i => by simp
  | s :: ls, 0 => by rw [List.take_zero]; exact Nat.zero_le _
  | s :: ls, i + 1 => by
    have := accP_take_le ls i
    rw [List.take_succ_cons, accP_cons, accP_cons, List.length_append, List.length_append]
    omega
theorem joinPs_le {p : List UInt8} {ns : List (List UInt8)} (h : partsP p = some ns) (i : Nat) : (joinPs (ns.take i)).length ≤ p.length + 1 := by
  by_cases h0 : ns.take i = []
  · rw [h0]
    show (1 : Nat) ≤ _
    omega
  · have hne : ns ≠ [] := fun q => h0 (by rw [q]; simp)
    have := accP_take_le ns i
    rw [accP_join h0, accP_join hne, parts_join h] at this
    omega
theorem joinPs_root {ns : List (List UInt8)} (h : ∀ s ∈ ns, goodN s) : joinPs ns = [47] ↔ ns = [] := by
  constructor
  · intro e
    cases ns with
    | nil => rfl
    | cons n ns =>
      exfalso
      rw [← path_join] at e
      unfold pathOf at e
      rw [if_neg (by simp), List.flatMap_cons] at e
      have := (List.cons.inj e).2
      exact (h n List.mem_cons_self).1 (List.append_eq_nil_iff.1 this).1
  · rintro rfl
    rfl
structure Cf where
  name : List UInt8
  ck : Nat
  compat : List (List UInt8)
  kernel : List UInt8
  disk : List UInt8
  tree : List UInt8
  ver : Int
  roll : Int
def Cf.cells (c : Cf) : List AV := [.str (B c.name), slA c.ck 1 (c.compat.map strV), .str (B c.kernel), .str (B c.disk), .str (B c.tree), .int .i64 c.ver, .int .i64 c.roll]
def Cf.V (c : Cf) : AV := .agg c.cells
theorem Cf.V_is (c : Cf) : c.V = .agg [.str (B c.name), slA c.ck 1 (c.compat.map strV), .str (B c.kernel), .str (B c.disk), .str (B c.tree), .int .i64 c.ver, .int .i64 c.roll] := rfl
theorem Cf.V_cells (c : Cf) : c.V.cells = [.str (B c.name), slA c.ck 1 (c.compat.map strV), .str (B c.kernel), .str (B c.disk), .str (B c.tree), .int .i64 c.ver, .int .i64 c.roll] := rfl
section
variable {H : AHeap} {K : AV → AHeap → Prop}
end
def Cf.as (c : Cf) (k : Nat) : Cf := { c with ck := k }
section
variable {H : AHeap} {K : AV → AHeap → Prop}
end
section
variable {H : AHeap} {K : AV → AHeap → Prop}
end
def kAdr : List UInt8 := [35, 97, 100, 100, 114, 101, 115, 115, 45, 99, 101, 108, 108, 115]
def kSiz : List UInt8 := [35, 115, 105, 122, 101, 45, 99, 101, 108, 108, 115]
def kReg : List UInt8 := [114, 101, 103]
def kRng : List UInt8 := [114, 97, 110, 103, 101, 115]
def kDev : List UInt8 := [100, 101, 118, 105, 99, 101, 95, 116, 121, 112, 101]
def kMem : List UInt8 := [109, 101, 109, 111, 114, 121]
/-- The number of a property, or the usual one. -/
def cntO (t : Tr) (nm : List UInt8) (u : Nat) : Option Nat := match valT t nm with
  | none => some u
  | some v => if v.length = 4 then some (big v) else none
def cellsO (t : Tr) : Option (Nat × Nat) := match cntO t kAdr 2, cntO t kSiz 1 with
  | some a, some s => if 1 ≤ a ∧ a ≤ 2 ∧ s ≤ 2 then some (a, s) else none
  | _, _ => none
theorem cellsO_le {t : Tr} {a s : Nat} (h : cellsO t = some (a, s)) : 1 ≤ a ∧ a ≤ 2 ∧ s ≤ 2 := by
  unfold cellsO at h
  split at h
  · split at h
    · obtain ⟨rfl, rfl⟩ := Prod.mk.inj (Option.some.inj h)
      assumption
    · cases h
  · cases h
/-- A row's columns. -/
def colsR : List Nat → List Int → Option (List Int)
  | [], _ => some []
  | n :: cs, l => if n = 2 ∧ ¬ l.getD 0 0 = 0 then none else (colsR cs (l.drop n)).map ((if 0 < n then l.getD (n - 1) 0 else 0) :: ·)
def rowsR (cs : List Nat) (w : Nat) : Nat → List Int → Option (List (List Int))
  | 0, _ => some []
  | k + 1, l => match colsR cs l, rowsR cs w k (l.drop w) with
    | some r, some rs => some (r :: rs)
    | _, _ => none
def rowsS (v : List UInt8) (cs : List Nat) : List (List Int) × Int :=
  if v.length % 4 = 0 ∧ 0 < cs.sum ∧ (v.length / 4) % cs.sum = 0 then (match rowsR cs cs.sum (v.length / 4 / cs.sum) (words (v.length / 4) v) with
    | some l => (l, 0)
    | none => ([], 7)) else ([], 6)
/-- A node that is not the root, and its parent. -/
def famO (t : Tr) (p : List UInt8) : Option (Tr × Tr) := match partsP p, findT t p with
  | some ns, some k => if ns = [] then none else some (k, (findT t (joinPs (ns.take (ns.length - 1)))).getD tr0)
  | _, _ => none
def regsS (t : Tr) (p : List UInt8) : List (Int × Int) × Int := match famO t p with
  | none => ([], 8)
  | some (k, u) => match valT k kReg with
    | none => ([], 8)
    | some v => match cellsO u with
      | none => ([], 6)
      | some (a, s) => ((rowsS v [a, s]).1.map (fun r => (r.getD 0 0, r.getD 1 0)), (rowsS v [a, s]).2)
def in32 (n : Int) : Bool := decide (0 ≤ n) && decide (n ≤ 4294967295)
def inRow (at_ : Int) (r : List Int) : Bool := decide (r.getD 0 0 ≤ at_) && decide (at_ - r.getD 0 0 < r.getD 2 0)
def thruS (l : List (List Int)) (at_ : Int) : Int × Int := match l.find? (inRow at_) with
  | none => (0, 2)
  | some r => if in32 (r.getD 1 0 + at_ - r.getD 0 0) = true then (r.getD 1 0 + at_ - r.getD 0 0, 0) else (0, 2)
def stepS (t : Tr) (p : List UInt8) (at_ : Int) : Int × Int := match famO t p with
  | none => (0, 8)
  | some (k, u) => if in32 at_ = true then (match valT k kRng with
    | none => (0, 8)
    | some v => if v = [] then (at_, 0) else (match cellsO k, cellsO u with
      | some (a, s), some (b, _) => if (rowsS v [a, b, s]).2 = 0 then thruS (rowsS v [a, b, s]).1 at_ else (0, (rowsS v [a, b, s]).2)
      | _, _ => (0, 6))) else (0, 1)
def upL (t : Tr) (ns : List (List UInt8)) : Nat → Int → Int × Int
  | 0, at_ => (at_, 0)
  | k + 1, at_ => if (stepS t (joinPs (ns.take (k + 1))) at_).2 = 0 then upL t ns k (stepS t (joinPs (ns.take (k + 1))) at_).1 else (0, (stepS t (joinPs (ns.take (k + 1))) at_).2)
def upS (t : Tr) (p : List UInt8) (at_ : Int) : Int × Int := match partsP p, findT t p with
  | some ns, some _ => if in32 at_ = true then upL t ns ns.length at_ else (0, 1)
  | _, _ => (0, 8)
def memK (t k : Tr) : List (Int × Int) := if asText (atT k [47] kDev) = some kMem ∧ (regsS t (joinPs [k.name])).2 = 0 then (regsS t (joinPs [k.name])).1 else []
def memL (t : Tr) : List (Int × Int) := t.kids.flatMap (memK t)
/-! ### numbers that are read are of 32 bits -/
theorem words_32 : ∀ (n : Nat) (l : List UInt8), ∀ x ∈ words n l, 0 ≤ x ∧ x ≤ 4294967295
  | 0, l, x, h => by rw [words] at h; cases h
  | n + 1, l, x, h => by
    rw [words_snoc] at h
    rcases List.mem_append.1 h with q | q
    · exact words_32 n l x q
    · rw [List.mem_singleton] at q
      rw [q]
      have := big_lt _ ((l.drop (4 * n)).take 4) rfl
      have h4 : ((l.drop (4 * n)).take 4).length ≤ 4 := by rw [List.length_take]; omega
      have : (256 : Nat) ^ ((l.drop (4 * n)).take 4).length ≤ 256 ^ 4 := Nat.pow_le_pow_right (by omega) h4
      omega
theorem getD_32 {l : List Int} (h : ∀ x ∈ l, 0 ≤ x ∧ x ≤ 4294967295) (i : Nat) : 0 ≤ l.getD i 0 ∧ l.getD i 0 ≤ 4294967295 := by
  rw [List.getD_eq_getElem?_getD]
  cases hg : l[i]? with
  | none => exact ⟨by decide, by decide⟩
  | some x => exact h x (List.mem_of_getElem? hg)
theorem colsR_32 : ∀ (cs : List Nat) (l r : List Int), (∀ x ∈ l, 0 ≤ x ∧ x ≤ 4294967295) → colsR cs l = some r → r.length = cs.length ∧ ∀ x ∈ r, 0 ≤ x ∧ x ≤ 4294967295
  | [], l, r, hl, h => by
    rw [colsR] at h
    obtain rfl := Option.some.inj h
    exact ⟨rfl, by simp⟩
  | n :: cs, l, r, hl, h => by
    rw [colsR] at h
    split at h
    · cases h
    · obtain ⟨r2, h2, rfl⟩ := Option.map_eq_some_iff.1 h
      obtain ⟨i1, i2⟩ := colsR_32 cs (l.drop n) r2 (fun x hx => hl x (List.mem_of_mem_drop hx)) h2
      refine ⟨by simp [i1], fun x hx => ?_⟩
      rcases List.mem_cons.1 hx with e | e
      · rw [e]
        split
        · exact getD_32 hl _
        · exact ⟨by decide, by decide⟩
      · exact i2 x e
theorem rowsR_32 (cs : List Nat) (w : Nat) : ∀ (k : Nat) (l : List Int) (rs : List (List Int)), (∀ x ∈ l, 0 ≤ x ∧ x ≤ 4294967295) → rowsR cs w k l = some rs → rs.length = k ∧ ∀ r ∈ rs, r.length = cs.length ∧ ∀ x ∈ r, 0 ≤ x ∧ x ≤ 4294967295
  | 0, l, rs, hl, h => by
    rw [rowsR] at h
    obtain rfl := Option.some.inj h
    exact ⟨rfl, by simp⟩
  | k + 1, l, rs, hl, h => by
    rw [rowsR] at h
    split at h
    · rename_i r rs2 h1 h2
      obtain rfl := Option.some.inj h
      obtain ⟨i1, i2⟩ := rowsR_32 cs w k (l.drop w) rs2 (fun x hx => hl x (List.mem_of_mem_drop hx)) h2
      refine ⟨by simp [i1], fun x hx => ?_⟩
      rcases List.mem_cons.1 hx with e | e
      · rw [e]
        exact colsR_32 cs _ _ hl h1
      · exact i2 x e
    · cases h
theorem rowsS_32 (v : List UInt8) (cs : List Nat) : (rowsS v cs).1.length ≤ v.length ∧ ∀ r ∈ (rowsS v cs).1, r.length = cs.length ∧ ∀ x ∈ r, 0 ≤ x ∧ x ≤ 4294967295 := by
  unfold rowsS
  split
  · split
    · rename_i l hl
      obtain ⟨h1, h2⟩ := rowsR_32 _ _ _ _ _ (words_32 _ _) hl
      refine ⟨?_, h2⟩
      show l.length ≤ _
      rw [h1]
      exact Nat.le_trans (Nat.div_le_self _ _) (Nat.div_le_self _ _)
    · exact ⟨Nat.zero_le _, by simp⟩
  · exact ⟨Nat.zero_le _, by simp⟩
/-! ### going through columns, and rows -/
theorem colsR_step {cs : List Nat} {l : List Int} {i : Nat} (hi : i < cs.length) (at_ : Nat) :
    colsR (cs.drop i) (l.drop at_) = if cs.getD i 0 = 2 ∧ ¬ l.getD at_ 0 = 0 then none else (colsR (cs.drop (i + 1)) (l.drop (at_ + cs.getD i 0))).map ((if 0 < cs.getD i 0 then l.getD (at_ + cs.getD i 0 - 1) 0 else 0) :: ·) := by
  have e : cs.drop i = cs.getD i 0 :: cs.drop (i + 1) := by
    rw [List.drop_eq_getElem_cons hi, List.getD_eq_getElem?_getD, List.getElem?_eq_getElem hi]
    rfl
  have g0 : ∀ j, (l.drop at_).getD j 0 = l.getD (at_ + j) 0 := fun j => by
    rw [List.getD_eq_getElem?_getD, List.getD_eq_getElem?_getD, List.getElem?_drop]
  rw [e, colsR, g0, Nat.add_zero, List.drop_drop, g0]
  by_cases h0 : 0 < cs.getD i 0
  · rw [if_pos h0, if_pos h0, show at_ + (cs.getD i 0 - 1) = at_ + cs.getD i 0 - 1 by omega]
  · rw [if_neg h0, if_neg h0]
theorem sum_step {cs : List Nat} {i : Nat} (hi : i < cs.length) : (cs.take (i + 1)).sum = (cs.take i).sum + cs.getD i 0 := by
  rw [List.take_add_one, List.getElem?_eq_getElem hi, List.sum_append, List.getD_eq_getElem?_getD, List.getElem?_eq_getElem hi]
  simp
theorem sum_take_le (cs : List Nat) (i : Nat) : (cs.take i).sum ≤ cs.sum := by
  conv => rhs; rw [← List.take_append_drop i cs, List.sum_append]
  omega
theorem sum_le2 {b : Nat} : ∀ {cs : List Nat}, (∀ c ∈ cs, c ≤ b) → cs.sum ≤ b * cs.length
  | [], _ => Nat.zero_le _
  | c :: cs, h => by
    have h1 := h c List.mem_cons_self
    have h2 := sum_le2 (fun x hx => h x (List.mem_cons_of_mem _ hx))
    rw [List.sum_cons, List.length_cons, Nat.mul_succ]
    omega
def colV (n : Nat) : AV := .int .i64 (n : Int)
theorem col_at {cs : List Nat} {i : Nat} (h : i < cs.length) : (cs.map colV)[i]? = some (.int .i64 (cs.getD i 0 : Nat)) := by
  rw [List.getElem?_map, List.getElem?_eq_getElem h, List.getD_eq_getElem?_getD, List.getElem?_eq_getElem h]
  rfl
end Go.Proofs.YtmdgjfadbhenjaaGreatDoor.AL
