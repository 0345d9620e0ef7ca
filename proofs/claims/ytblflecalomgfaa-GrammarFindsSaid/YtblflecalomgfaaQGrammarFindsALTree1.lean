/- Trees told: counting them. -/
import Derived.Test.YtblflecalomgfaaQGrammarFindsALDTree
import Derived.Test.YtblflecalomgfaaQGrammarFindsALA4
set_option linter.unusedSimpArgs false
set_option linter.unusedVariables false
set_option maxRecDepth 100000
set_option maxHeartbeats 16000000
namespace Go.Proofs.Ytblflecalomgfaa.AL
open Go Go.Proofs
attribute [local go_sem] go_seq go_skip go_region go_regionN go_fregion rgF_some go_cond go_block go_exit go_ret nxt_nil nxt_code nxt_blk nxt_cut leave_nil leave_code leave_cut leave_blk rtn_nil rtn_code rtn_blk rtn_cut cnd_t cnd_f rgn_nil rgY_some rgY_none rgH_some rgP_some retTo_is rgV_func grd_und grd_tt grd_ff grd_tf grd_ft rgn_q rgn_alloc rgn_box rgn_store rgn_lit rgn_litw litCells_nil litCells_cons rgn_app rgn_copy rgn_mk rgn_s2b rgn_call rgn_callv rgn_stop rgn_slice3 aslice3 rgn_put rgn_mkmap rgn_lookup rgn_mapup alookup_nilm alookup_map amapup_map afound_ok afound_no rgn_c rgn_cv qclV_func aloadr rgn_guard post_ret post_normal retY_some ares aresL ares1 AX.ev aput List.getD_cons_zero List.getD_cons_succ List.set_cons_zero List.set_cons_succ List.map_cons List.map_nil aq abin aint astr abeq aconv asame aextract alenS alenL_nils alenL_emp alenL_imm alenL_wr aun apart aload afieldAddr afield aidxSl_wr aidxSl_imm aidxPt aidxStr aidxArr abound asliceStr asliceSl asliceArr abest anonil afill astore acells_nils acells_emp acells_imm acells_wr acells_str acopy litAll amk as2b anil nilOf aseq aeqs aeqv fits fit1 hp_next hp_push hp_get hp_set List.length_cons List.length_nil List.getElem?_cons_zero List.getElem?_cons_succ List.cons_append List.nil_append List.append_nil List.take_succ_cons List.take_zero List.drop_succ_cons List.drop_zero List.all_cons List.all_nil Option.map_some Option.some.injEq Bool.and_true Bool.true_and Bool.false_eq_true if_true if_false ite_true ite_false Bool.and_self true_and and_true and_self Nat.zero_add Nat.le_refl Int.toNat_natCast beq_self_eq_true eq_self tops_zero tops_succ Int.natCast_nonneg List.take_nil List.drop_nil Option.map_none flat_bool one_bool cells_bool flat_int one_int cells_int flat_str one_str cells_str flat_nilp one_nilp cells_nilp flat_ptr one_ptr cells_ptr flat_nils one_nils cells_nils flat_imm one_imm cells_imm flat_wr one_wr cells_wr flat_func one_func cells_func flat_nilf one_nilf cells_nilf flat_map one_map cells_map flat_nilm one_nilm cells_nilm flat_iface one_iface cells_iface flat_nili one_nili cells_nili flat_rd one_rd cells_rd flat_emp one_emp cells_emp flat_byteV one_byteV cells_byteV flat_agg cells_agg one_agg B_size B_list B_ext B_toList B_app List.take_length Int.le_refl
/-- A tree; kp and kk: what its slices are where they have nothing (nil, or empty). -/
inductive Tr where
  | mk (name : List UInt8) (kp : Nat) (props : List (List UInt8 × List UInt8)) (kk : Nat) (kids : List Tr)
def Tr.name : Tr → List UInt8
  | .mk n _ _ _ _ => n
def Tr.kp : Tr → Nat
  | .mk _ k _ _ _ => k
def Tr.props : Tr → List (List UInt8 × List UInt8)
  | .mk _ _ p _ _ => p
def Tr.kk : Tr → Nat
  | .mk _ _ _ k _ => k
def Tr.kids : Tr → List Tr
  | .mk _ _ _ _ ks => ks
def propV (p : List UInt8 × List UInt8) : AV := .agg [.str (B p.1), .str (B p.2)]
theorem propV_cells (p : List UInt8 × List UInt8) : (propV p).cells = [.str (B p.1), .str (B p.2)] := rfl
mutual
def Tr.cells : Tr → List AV
  | .mk n kp ps kk ks => [.str (B n), slA kp 2 (ps.map propV), slA kk 3 (Tr.Vs ks)]
def Tr.Vs : List Tr → List AV
  | [] => []
  | t :: ts => .agg t.cells :: Tr.Vs ts
end
def Tr.V (t : Tr) : AV := .agg t.cells
theorem Tr.Vs_is : ∀ ks : List Tr, Tr.Vs ks = ks.map Tr.V
  | [] => by rw [Tr.Vs]; rfl
  | t :: ts => by rw [Tr.Vs, Tr.Vs_is ts]; rfl
theorem Tr.cells_is (t : Tr) : t.cells = [.str (B t.name), slA t.kp 2 (t.props.map propV), slA t.kk 3 (t.kids.map Tr.V)] := by
  cases t with
  | mk n kp ps kk ks => rw [Tr.cells, Tr.Vs_is]; rfl
theorem Tr.V_is (t : Tr) : t.V = .agg [.str (B t.name), slA t.kp 2 (t.props.map propV), slA t.kk 3 (t.kids.map Tr.V)] := by rw [Tr.V, Tr.cells_is]
theorem Tr.V_cells (t : Tr) : t.V.cells = [.str (B t.name), slA t.kp 2 (t.props.map propV), slA t.kk 3 (t.kids.map Tr.V)] := by rw [Tr.V_is]; rfl
theorem props_u (n : Nat) (ps : List (List UInt8 × List UInt8)) : AllC n (ps.map propV) := uc_map n ps (fun p => by rw [propV_cells]; simp only [u_top, u_bool, u_int, u_str, u_nilp, u_nils, u_nilf, u_nilm, u_nili, u_emp, u_byteV, u_ptr, u_wr, u_agg, u_tup, u_rd, u_imm, u_func, u_nil, u_cons, u_app, uc_nil, uc_cons, uc_app, u_bytes, uc_bytes, u_ints, uc_ints, cells_bool, cells_int, cells_str, cells_agg, cells_ptr, cells_nils, cells_imm, cells_wr, cells_nilp, cells_nilf, cells_nilm, cells_rd, cells_emp, cells_byteV, cells_func, and_self, and_true, true_and, u_slA, uc_strs, cells_slA, strV_is])
mutual
theorem Tr.cu (n : Nat) : ∀ t : Tr, AllU n t.cells
  | .mk nm kp ps kk ks => by
    rw [Tr.cells]
    simp only [u_cons, u_nil, u_str, u_slA, and_true, true_and]
    exact ⟨props_u n ps, Tr.csu n ks⟩
theorem Tr.csu (n : Nat) : ∀ ks : List Tr, AllC n (Tr.Vs ks)
  | [] => by rw [Tr.Vs, uc_nil]; trivial
  | t :: ts => by
    rw [Tr.Vs, uc_cons]
    exact ⟨Tr.cu n t, Tr.csu n ts⟩
end
theorem kids_u (n : Nat) (t : Tr) : AllC n (t.kids.map Tr.V) := by
  have := Tr.cu n t
  rw [Tr.cells_is] at this
  simp only [u_cons, u_nil, u_str, u_slA, and_true, true_and] at this
  exact this.2
def tr0 : Tr := .mk [] 0 [] 0 []
theorem tr_at {ls : List Tr} {i : Nat} (h : i < ls.length) : (ls.map Tr.V)[i]? = some (Tr.V (ls.getD i tr0)) := by
  rw [List.getElem?_map, List.getD_eq_getElem?_getD, List.getElem?_eq_getElem h]
  rfl
theorem prop_at {ls : List (List UInt8 × List UInt8)} {i : Nat} (h : i < ls.length) : (ls.map propV)[i]? = some (propV (ls.getD i ([], []))) := by
  rw [List.getElem?_map, List.getD_eq_getElem?_getD, List.getElem?_eq_getElem h]
  rfl
/-- Sizes that can be. -/
inductive TrOk : Tr → Prop
  | mk (name : List UInt8) (kp : Nat) (props : List (List UInt8 × List UInt8)) (kk : Nat) (kids : List Tr) : name.length ≤ 9223372036854775807 → props.length ≤ 9223372036854775807 → (∀ p ∈ props, p.1.length ≤ 9223372036854775807 ∧ p.2.length ≤ 9223372036854775807) → kids.length ≤ 9223372036854775807 → (∀ k ∈ kids, TrOk k) → TrOk (.mk name kp props kk kids)
theorem TrOk.n {t : Tr} (h : TrOk t) : t.name.length ≤ 9223372036854775807 := by cases h; assumption
theorem TrOk.p {t : Tr} (h : TrOk t) : t.props.length ≤ 9223372036854775807 := by cases h; assumption
theorem TrOk.k {t : Tr} (h : TrOk t) : t.kids.length ≤ 9223372036854775807 := by cases h; assumption
theorem TrOk.ps {t : Tr} (h : TrOk t) : ∀ p ∈ t.props, p.1.length ≤ 9223372036854775807 ∧ p.2.length ≤ 9223372036854775807 := by cases h; assumption
theorem TrOk.ks {t : Tr} (h : TrOk t) : ∀ k ∈ t.kids, TrOk k := by cases h; assumption
theorem tr_mem {l : List Tr} {i : Nat} (h : i < l.length) : l.getD i tr0 ∈ l := by
  rw [List.getD_eq_getElem?_getD, List.getElem?_eq_getElem h]
  exact List.getElem_mem _
def trRow (t : Tr) : AObj := .row 83 0 [.str (B t.name), slA t.kp 2 (t.props.map propV), slA t.kk 3 (t.kids.map Tr.V)]
theorem trRow_is (t : Tr) : trRow t = .row 83 0 [.str (B t.name), slA t.kp 2 (t.props.map propV), slA t.kk 3 (t.kids.map Tr.V)] := rfl
theorem trRow_u (n : Nat) (t : Tr) : (trRow t).under n := by
  have := Tr.cu n t
  rw [Tr.cells_is] at this
  exact this
/-! ### how big it is -/
def wI (n : Int) : Int := IntKind.wrap .i64 n
def mxI (a b : Int) : Int := if a < b then b else a
def cstep (f : Tr → Int × Int × Int) (a : Int × Int × Int) (k : Tr) : Int × Int × Int := (wI (a.1 + (f k).1), wI (a.2.1 + (f k).2.1), mxI a.2.2 (f k).2.2)
def tcount : Nat → Tr → Int × Int × Int
  | 0, _ => (0, 0, 0)
  | l + 1, t => ((t.kids.foldl (cstep (tcount l)) (1, (t.props.length : Int), 0)).1, (t.kids.foldl (cstep (tcount l)) (1, (t.props.length : Int), 0)).2.1, wI ((t.kids.foldl (cstep (tcount l)) (1, (t.props.length : Int), 0)).2.2 + 1))
theorem foldl_step {α β : Type} (f : β → α → β) (b : β) (d : α) {l : List α} {i : Nat} (h : i < l.length) : (l.take (i + 1)).foldl f b = f ((l.take i).foldl f b) (l.getD i d) := by
  rw [List.take_add_one, List.getElem?_eq_getElem h, List.foldl_append, List.getD_eq_getElem?_getD, List.getElem?_eq_getElem h]
  rfl
theorem tcount_a : ∀ (l : Nat) (t : Tr) (H : AHeap) (K : AV → AHeap → Prop), l ≤ 100 → TrOk t → K (.tup [.int .i64 (tcount l t).1, .int .i64 (tcount l t).2.1, .int .i64 (tcount l t).2.2]) H → (ACalls Try.prog) 159 [t.V, .int .i64 (l : Int)] H K
  | 0, t, H, K, hl, ho, h => by
    refine acalls_go mo t159 (fun hs hu => ?_)
    rw [tcount] at h
    simp only [c159, Tr.V_is, Int.ofNat_zero, Int.natCast_zero, go_sem, Nat.reduceLeDiff, Nat.reduceAdd, Nat.reduceSub, Nat.reduceMul, Nat.reduceLT, Int.reduceLT, Int.reduceLE, Int.reduceAdd, Int.reduceSub, Int.reduceMul, Int.reduceToNat, Int.reduceNeg, Int.reduceEq, Nat.reducePow, Int.reducePow, Nat.reduceEqDiff, decide_true, decide_false, reduceIte, reduceCtorEq, Int.reduceBEq, Int.reduceBNe, bne_self_eq_false, Int.cast_ofNat_Int, Bool.not_true, Bool.not_false, IntKind.bits]
    exact aret_plain hs (by simp only [u_top, u_bool, u_int, u_str, u_nilp, u_nils, u_nilf, u_nilm, u_nili, u_emp, u_byteV, u_ptr, u_wr, u_agg, u_tup, u_rd, u_imm, u_func, u_nil, u_cons, u_app, uc_nil, uc_cons, uc_app, u_bytes, uc_bytes, u_ints, uc_ints, cells_bool, cells_int, cells_str, cells_agg, cells_ptr, cells_nils, cells_imm, cells_wr, cells_nilp, cells_nilf, cells_nilm, cells_rd, cells_emp, cells_byteV, cells_func, and_self, and_true, true_and, u_slA, uc_strs, cells_slA, strV_is]) (h)
  | l + 1, t, H, K, hl, ho, h => by
    refine acalls_go mo t159 (fun hs hu => ?_)
    have ih := tcount_a l
    rw [tcount] at h
    have hkl := ho.k
    simp only [c159, Tr.V_is, go_sem, Nat.reduceLeDiff, Nat.reduceAdd, Nat.reduceSub, Nat.reduceMul, Nat.reduceLT, Int.reduceLT, Int.reduceLE, Int.reduceAdd, Int.reduceSub, Int.reduceMul, Int.reduceToNat, Int.reduceNeg, Int.reduceEq, Nat.reducePow, Int.reducePow, Nat.reduceEqDiff, decide_true, decide_false, reduceIte, reduceCtorEq, Int.reduceBEq, Int.reduceBNe, bne_self_eq_false, Int.cast_ofNat_Int, Bool.not_true, Bool.not_false, IntKind.bits]
    simp (maxSteps := 4000000) (disch := (first | omega | (simp only [set_next, List.length_append, List.length_cons, List.length_nil, List.length_take, List.length_drop, List.length_map, List.length_set, List.length_replicate]; omega) | (simp only [set_next, ne_eq, reduceCtorEq, not_false_eq_true]))) only [go_sem, Nat.reduceLeDiff, Nat.reduceAdd, Nat.reduceSub, Nat.reduceMul, Nat.reduceLT, Int.reduceLT, Int.reduceLE, Int.reduceAdd, Int.reduceSub, Int.reduceMul, Int.reduceToNat, Int.reduceNeg, Int.reduceEq, Nat.reducePow, Int.reducePow, Nat.reduceEqDiff, decide_true, decide_false, reduceIte, reduceCtorEq, Int.reduceBEq, Int.reduceBNe, bne_self_eq_false, Int.cast_ofNat_Int, Bool.not_true, Bool.not_false, IntKind.bits, w_nat, w_lit, w_add, w_addl, w_ladd, w_sub, w_subl, w_lsub, w_mul, w_mull, w_lmul, t_div, t_divl, t_mod, t_modl, i_lt, i_ltl, i_llt, i_le, i_lel, i_lle, i_eq, i_eql, i_leq, Nat.zero_le, d_beq, d_bne, d_bytes, byte_at, Int.toNat_natCast, toNat_lit, decide_eq_true, decide_eq_false, if_pos, if_neg, slA_len, slA_idx, slA_cells, flat_slA, one_slA, cells_slA, map_mid, strV_is, hp_get1, hp_get2, hp_get3, hp_set1, hp_set2, hp_set3, hp_old, hp_sold, set_got, set_set, set_next, set_other, bytesL, bytes_all, List.length_map, aapp_nils, aapp_wr, List.flatMap_cons, List.flatMap_nil, Nat.mul_one]
    rw [← hp_nil (H := hp H _)]
    refine go_loopS mono (σ := AHeap × Nat) (fun z => [(7, .int .i64 ((t.kids.take z.2).foldl (cstep (tcount l)) (1, (t.props.length : Int), 0)).1), (8, .int .i64 ((t.kids.take z.2).foldl (cstep (tcount l)) (1, (t.props.length : Int), 0)).2.1), (9, .int .i64 ((t.kids.take z.2).foldl (cstep (tcount l)) (1, (t.props.length : Int), 0)).2.2), (23, .int .i64 (z.2 : Int))]) (fun z => hp z.1 []) (fun z => Past H z.1 ∧ z.2 ≤ t.kids.length) (fun z => t.kids.length - z.2) (hp H [trRow t], 0) ?_ rfl ⟨past_hp past_refl _, Nat.zero_le _⟩ (fun z hz J hJ => ?_)
    · rw [List.take_zero, List.foldl_nil]
      (simp only [blurR_nil, blurR_some, blurR_none, blurC_region, blurC_regionN, blurC_fregion, blurT_nil, blurT_cons, blurC_seq, blurC_cond, blurC_block, blurC_loop, blurC_skip, blurC_exit, blurC_ret, tellS_nil, tellS_cons, List.set_cons_zero, List.set_cons_succ, tops_zero, tops_succ]; repeat first | exact forget_nil | apply forget_keep | apply forget_top)
    obtain ⟨G, i⟩ := z
    obtain ⟨hG, hil⟩ := hz
    simp only at hG hil
    simp only [blurR_nil, blurR_some, blurR_none, blurC_region, blurC_regionN, blurC_fregion, blurT_nil, blurT_cons, blurC_seq, blurC_cond, blurC_block, blurC_loop, blurC_skip, blurC_exit, blurC_ret, tellS_nil, tellS_cons, List.set_cons_zero, List.set_cons_succ, tops_zero, tops_succ]
    by_cases h1 : i < t.kids.length
    · have ha := tr_at h1
      have hok := ho.ks _ (tr_mem h1)
      have hst := foldl_step (cstep (tcount l)) (1, (t.props.length : Int), 0) tr0 h1
      have hJ2 := fun (G2 : AHeap) (p1 : Past H G2) a' => hJ (G2, i + 1) a' ⟨p1, h1⟩ (by show t.kids.length - (i + 1) < t.kids.length - i; omega)
      clear hJ
      simp only [hst] at hJ2
      generalize t.kids.getD i tr0 = k at *
      generalize (t.kids.take i).foldl (cstep (tcount l)) (1, (t.props.length : Int), 0) = acc at *
      have hVc := Tr.V_cells k
      have hVi := Tr.V_is k
      simp (maxSteps := 4000000) (disch := (first | omega | (simp only [set_next, List.length_append, List.length_cons, List.length_nil, List.length_take, List.length_drop, List.length_map, List.length_set, List.length_replicate]; omega) | (simp only [set_next, ne_eq, reduceCtorEq, not_false_eq_true]))) only [ha, hVc, List.map_map, go_sem, Nat.reduceLeDiff, Nat.reduceAdd, Nat.reduceSub, Nat.reduceMul, Nat.reduceLT, Int.reduceLT, Int.reduceLE, Int.reduceAdd, Int.reduceSub, Int.reduceMul, Int.reduceToNat, Int.reduceNeg, Int.reduceEq, Nat.reducePow, Int.reducePow, Nat.reduceEqDiff, decide_true, decide_false, reduceIte, reduceCtorEq, Int.reduceBEq, Int.reduceBNe, bne_self_eq_false, Int.cast_ofNat_Int, Bool.not_true, Bool.not_false, IntKind.bits, w_nat, w_lit, w_add, w_addl, w_ladd, w_sub, w_subl, w_lsub, w_mul, w_mull, w_lmul, t_div, t_divl, t_mod, t_modl, i_lt, i_ltl, i_llt, i_le, i_lel, i_lle, i_eq, i_eql, i_leq, Nat.zero_le, d_beq, d_bne, d_bytes, byte_at, Int.toNat_natCast, toNat_lit, decide_eq_true, decide_eq_false, if_pos, if_neg, slA_len, slA_idx, slA_cells, flat_slA, one_slA, cells_slA, map_mid, strV_is, hp_get1, hp_get2, hp_get3, hp_set1, hp_set2, hp_set3, hp_old, hp_sold, set_got, set_set, set_next, set_other, bytesL, bytes_all, List.length_map, aapp_nils, aapp_wr, List.flatMap_cons, List.flatMap_nil, Nat.mul_one]
      rw [← hVi]
      refine ih _ _ _ (by omega) hok ?_
      unfold cstep at hJ2
      generalize tcount l k = c at *
      have hb : (if acc.2.2 < c.2.2 then AV.int .i64 c.2.2 else AV.int .i64 acc.2.2) = .int .i64 (mxI acc.2.2 c.2.2) := by unfold mxI; split <;> rfl
      have hb2 : (if acc.2.2 < c.2.2 then c.2.2 else acc.2.2) = mxI acc.2.2 c.2.2 := rfl
      simp (maxSteps := 4000000) (disch := (first | omega | (simp only [set_next, List.length_append, List.length_cons, List.length_nil, List.length_take, List.length_drop, List.length_map, List.length_set, List.length_replicate]; omega) | (simp only [set_next, ne_eq, reduceCtorEq, not_false_eq_true]))) only [hb, hb2, go_sem, Nat.reduceLeDiff, Nat.reduceAdd, Nat.reduceSub, Nat.reduceMul, Nat.reduceLT, Int.reduceLT, Int.reduceLE, Int.reduceAdd, Int.reduceSub, Int.reduceMul, Int.reduceToNat, Int.reduceNeg, Int.reduceEq, Nat.reducePow, Int.reducePow, Nat.reduceEqDiff, decide_true, decide_false, reduceIte, reduceCtorEq, Int.reduceBEq, Int.reduceBNe, bne_self_eq_false, Int.cast_ofNat_Int, Bool.not_true, Bool.not_false, IntKind.bits, w_nat, w_lit, w_add, w_addl, w_ladd, w_sub, w_subl, w_lsub, w_mul, w_mull, w_lmul, t_div, t_divl, t_mod, t_modl, i_lt, i_ltl, i_llt, i_le, i_lel, i_lle, i_eq, i_eql, i_leq, Nat.zero_le, d_beq, d_bne, d_bytes, byte_at, Int.toNat_natCast, toNat_lit, decide_eq_true, decide_eq_false, if_pos, if_neg, slA_len, slA_idx, slA_cells, flat_slA, one_slA, cells_slA, map_mid, strV_is, hp_get1, hp_get2, hp_get3, hp_set1, hp_set2, hp_set3, hp_old, hp_sold, set_got, set_set, set_next, set_other, bytesL, bytes_all, List.length_map, aapp_nils, aapp_wr, List.flatMap_cons, List.flatMap_nil, Nat.mul_one]
      rw [← hp_nil (H := hp G _)]
      exact hJ2 _ (past_hp hG _) _ (by (simp only [blurR_nil, blurR_some, blurR_none, blurC_region, blurC_regionN, blurC_fregion, blurT_nil, blurT_cons, blurC_seq, blurC_cond, blurC_block, blurC_loop, blurC_skip, blurC_exit, blurC_ret, tellS_nil, tellS_cons, List.set_cons_zero, List.set_cons_succ, tops_zero, tops_succ]; repeat first | exact forget_nil | apply forget_keep | apply forget_top))
    · rw [List.take_of_length_le (by omega)]
      generalize t.kids.foldl (cstep (tcount l)) (1, (t.props.length : Int), 0) = acc at *
      simp only [wI] at h
      simp (maxSteps := 4000000) (disch := (first | omega | (simp only [set_next, List.length_append, List.length_cons, List.length_nil, List.length_take, List.length_drop, List.length_map, List.length_set, List.length_replicate]; omega) | (simp only [set_next, ne_eq, reduceCtorEq, not_false_eq_true]))) only [go_sem, Nat.reduceLeDiff, Nat.reduceAdd, Nat.reduceSub, Nat.reduceMul, Nat.reduceLT, Int.reduceLT, Int.reduceLE, Int.reduceAdd, Int.reduceSub, Int.reduceMul, Int.reduceToNat, Int.reduceNeg, Int.reduceEq, Nat.reducePow, Int.reducePow, Nat.reduceEqDiff, decide_true, decide_false, reduceIte, reduceCtorEq, Int.reduceBEq, Int.reduceBNe, bne_self_eq_false, Int.cast_ofNat_Int, Bool.not_true, Bool.not_false, IntKind.bits, w_nat, w_lit, w_add, w_addl, w_ladd, w_sub, w_subl, w_lsub, w_mul, w_mull, w_lmul, t_div, t_divl, t_mod, t_modl, i_lt, i_ltl, i_llt, i_le, i_lel, i_lle, i_eq, i_eql, i_leq, Nat.zero_le, d_beq, d_bne, d_bytes, byte_at, Int.toNat_natCast, toNat_lit, decide_eq_true, decide_eq_false, if_pos, if_neg, slA_len, slA_idx, slA_cells, flat_slA, one_slA, cells_slA, map_mid, strV_is, hp_get1, hp_get2, hp_get3, hp_set1, hp_set2, hp_set3, hp_old, hp_sold, set_got, set_set, set_next, set_other, bytesL, bytes_all, List.length_map, aapp_nils, aapp_wr, List.flatMap_cons, List.flatMap_nil, Nat.mul_one]
      exact aret_past (past_hp hG _) hs (by simp only [u_top, u_bool, u_int, u_str, u_nilp, u_nils, u_nilf, u_nilm, u_nili, u_emp, u_byteV, u_ptr, u_wr, u_agg, u_tup, u_rd, u_imm, u_func, u_nil, u_cons, u_app, uc_nil, uc_cons, uc_app, u_bytes, uc_bytes, u_ints, uc_ints, cells_bool, cells_int, cells_str, cells_agg, cells_ptr, cells_nils, cells_imm, cells_wr, cells_nilp, cells_nilf, cells_nilm, cells_rd, cells_emp, cells_byteV, cells_func, and_self, and_true, true_and, u_slA, uc_strs, cells_slA, strV_is]) h
end Go.Proofs.Ytblflecalomgfaa.AL

