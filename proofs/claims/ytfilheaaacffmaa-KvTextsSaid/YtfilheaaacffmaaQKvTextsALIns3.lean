/- One element put into a slice of one's own, told of the slice. -/
import Derived.Test.YtfilheaaacffmaaQKvTextsALIns2
set_option linter.unusedSimpArgs false
set_option linter.unusedVariables false
set_option maxRecDepth 100000
set_option maxHeartbeats 16000000
namespace Go.Proofs.Ytfilheaaacffmaa.AL
open Go Go.Proofs
attribute [local go_sem] go_seq go_skip go_region go_regionN go_fregion rgF_some go_cond go_block go_exit go_ret nxt_nil nxt_code nxt_blk nxt_cut leave_nil leave_code leave_cut leave_blk rtn_nil rtn_code rtn_blk rtn_cut cnd_t cnd_f rgn_nil rgY_some rgY_none rgH_some rgP_some retTo_is rgV_func grd_und grd_tt grd_ff grd_tf grd_ft rgn_q rgn_alloc rgn_box rgn_store rgn_lit rgn_litw litCells_nil litCells_cons rgn_app rgn_copy rgn_mk rgn_s2b rgn_call rgn_callv rgn_stop rgn_slice3 aslice3 rgn_slice3l aslice3l rgn_appz rgn_clear rgn_range rgn_next arange acap rgn_put rgn_mkmap rgn_lookup rgn_mapup alookup_nilm alookup_map amapup_map afound_ok afound_no rgn_c rgn_cv qclV_func aloadr rgn_guard post_ret post_normal retY_some ares aresL ares1 AX.ev aput List.getD_cons_zero List.getD_cons_succ List.set_cons_zero List.set_cons_succ List.map_cons List.map_nil aq abin aint astr abeq aconv asame aextract alenS alenL_nils alenL_emp alenL_imm alenL_wr alenL_wc aun apart aload afieldAddr afield aidxSl_wr aidxSl_wc aidxSl_imm aidxPt aidxStr aidxArr abound asliceStr asliceSl asliceArr abest anonil afill astore acells_nils acells_emp acells_imm acells_wr acells_wc acells_str acopy litAll amk as2b anil nilOf aseq aeqs aeqv fits fit1 hp_next hp_push hp_get hp_set List.length_cons List.length_nil List.getElem?_cons_zero List.getElem?_cons_succ List.cons_append List.nil_append List.append_nil List.take_succ_cons List.take_zero List.drop_succ_cons List.drop_zero List.all_cons List.all_nil Option.map_some Option.some.injEq Bool.and_true Bool.true_and Bool.false_eq_true if_true if_false ite_true ite_false Bool.and_self true_and and_true and_self Nat.zero_add Nat.le_refl Int.toNat_natCast beq_self_eq_true eq_self tops_zero tops_succ Int.natCast_nonneg List.take_nil List.drop_nil Option.map_none flat_bool one_bool cells_bool flat_int one_int cells_int flat_str one_str cells_str flat_nilp one_nilp cells_nilp flat_ptr one_ptr cells_ptr flat_nils one_nils cells_nils flat_imm one_imm cells_imm flat_wr one_wr cells_wr flat_wc one_wc cells_wc flat_func one_func cells_func flat_nilf one_nilf cells_nilf flat_map one_map cells_map flat_nilm one_nilm cells_nilm flat_iface one_iface cells_iface flat_nili one_nili cells_nili flat_rd one_rd cells_rd flat_emp one_emp cells_emp flat_byteV one_byteV cells_byteV flat_agg cells_agg one_agg B_size B_list B_ext B_toList B_app List.take_length Int.le_refl
theorem flat_take {sz : Nat} : ∀ (xs : List AV) (i : Nat), (∀ x ∈ xs, x.cells.length = sz) → i ≤ xs.length → (xs.flatMap AV.cells).take (i * sz) = (xs.take i).flatMap AV.cells
  | [], i, _, h => by
    have : i = 0 := by simpa using h
    subst this
    simp
  | x :: xs, 0, _, _ => by simp
  | x :: xs, i + 1, hx, h => by
    have h1 := hx x List.mem_cons_self
    rw [List.flatMap_cons, List.take_succ_cons, List.flatMap_cons, List.take_append, List.take_of_length_le (by rw [h1, Nat.succ_mul]; omega), h1, show (i + 1) * sz - sz = i * sz by rw [Nat.succ_mul]; omega, flat_take xs i (fun y hy => hx y (List.mem_cons_of_mem _ hy)) (by simpa using h)]
theorem flat_drop {sz : Nat} : ∀ (xs : List AV) (i : Nat), (∀ x ∈ xs, x.cells.length = sz) → i ≤ xs.length → (xs.flatMap AV.cells).drop (i * sz) = (xs.drop i).flatMap AV.cells
  | [], i, _, h => by
    have : i = 0 := by simpa using h
    subst this
    simp
  | x :: xs, 0, _, _ => by simp
  | x :: xs, i + 1, hx, h => by
    have h1 := hx x List.mem_cons_self
    rw [List.flatMap_cons, List.drop_succ_cons, List.drop_append, List.drop_of_length_le (by rw [h1, Nat.succ_mul]; omega), List.nil_append, h1, show (i + 1) * sz - sz = i * sz by rw [Nat.succ_mul]; omega, flat_drop xs i (fun y hy => hx y (List.mem_cons_of_mem _ hy)) (by simpa using h)]
section
variable {H : AHeap} {K : AV → AHeap → Prop}
theorem insert_a {n0 at_ idv : Nat} {v y : AV} {xs : List AV} (h : SlAt n0 H 94 2 v xs) (hn0 : n0 ≤ H.next) (hx : ∀ x ∈ xs, x.cells.length = 2) (hx1 : (xs.flatMap AV.cells).all AV.one = true)
    (hv : H.get idv = some (.row 94 0 y.cells)) (hvn : ∀ gen off len sz, v ≠ .wr idv gen off len sz) (hy : y.cells.length = 2) (hy1 : y.cells.all AV.one = true) (hat : at_ ≤ xs.length) (hnb : xs.length ≤ 1000000)
    (hk : ∀ v' G, SlAt n0 G 94 2 v' (xs.take at_ ++ [y] ++ xs.drop at_) → Grew n0 v H v' G → G.within G.next → K v' G) :
    (ACalls Try.prog) 119 [v, .int .i64 (at_ : Int), .wr idv 0 0 1 2] H K := by
  have hnew : Grew n0 v H (.wr H.next 0 0 (xs.length + 1) 2) (H.push (.row 94 0 ((xs.take at_ ++ [y] ++ xs.drop at_).flatMap AV.cells))) :=
    ⟨Nat.le_succ _, fun i hi => push_get_old _ _ _ (by omega), fun i o h _ => by rw [push_get_old _ _ _ (H.lt h)]; exact h, fun j hj _ gen off len sz e => by cases e; omega⟩
  have hsn : SlAt n0 (H.push (.row 94 0 ((xs.take at_ ++ [y] ++ xs.drop at_).flatMap AV.cells))) 94 2 (.wr H.next 0 0 (xs.length + 1) 2) (xs.take at_ ++ [y] ++ xs.drop at_) :=
    .inr ⟨H.next, 0, by
      have : (xs.take at_ ++ [y] ++ xs.drop at_).length = xs.length + 1 := by
        rw [List.length_append, List.length_append, List.length_take, List.length_drop, List.length_singleton]
        omega
      rw [this], hn0, push_get_new _ _⟩
  rcases h with ⟨rfl, rfl⟩ | ⟨id, gen, rfl, hid, hg⟩
  · have h0 : at_ = 0 := by simpa using hat
    subst h0
    refine acalls_go mo t119 (fun hs hu => ?_)
    have hc := ins_cells (H := H) (idv := idv) (e := 94) (sz := 2) hv hy
    have hE : aapp 94 2 32 (hp H []) .nils (.wr idv 0 0 1 2) = some (.wr H.next 0 0 1 2, hp (H.push (.row 94 0 y.cells)) []) := by
      rw [aapp_nils, hc]
      simp only [hy1, if_true]
      rw [if_neg (by decide), if_pos (by decide), hp_nil, hp_nil]
    have hfin := fun w => hk _ _ hsn hnew w
    have e1 : ((([] : List AV).take 0 ++ [y] ++ ([] : List AV).drop 0).flatMap AV.cells) = y.cells := by simp
    rw [e1] at hfin
    simp only [c119, go_sem, Nat.reduceLeDiff, Nat.reduceAdd, Nat.reduceSub, Nat.reduceMul, Nat.reduceLT, Int.reduceLT, Int.reduceLE, Int.reduceAdd, Int.reduceSub, Int.reduceMul, Int.reduceToNat, Int.reduceNeg, Int.reduceEq, Nat.reducePow, Int.reducePow, Nat.reduceEqDiff, decide_true, decide_false, reduceIte, reduceCtorEq, Int.reduceBEq, Int.reduceBNe, bne_self_eq_false, Int.cast_ofNat_Int, Bool.not_true, Bool.not_false, IntKind.bits]
    simp (maxSteps := 4000000) (disch := (first | omega | (simp only [set_next, List.length_append, List.length_cons, List.length_nil, List.length_take, List.length_drop, List.length_map, List.length_set, List.length_replicate]; omega) | (simp only [set_next, ne_eq, reduceCtorEq, not_false_eq_true]))) only [hE, go_sem, Nat.reduceLeDiff, Nat.reduceAdd, Nat.reduceSub, Nat.reduceMul, Nat.reduceLT, Int.reduceLT, Int.reduceLE, Int.reduceAdd, Int.reduceSub, Int.reduceMul, Int.reduceToNat, Int.reduceNeg, Int.reduceEq, Nat.reducePow, Int.reducePow, Nat.reduceEqDiff, decide_true, decide_false, reduceIte, reduceCtorEq, Int.reduceBEq, Int.reduceBNe, bne_self_eq_false, Int.cast_ofNat_Int, Bool.not_true, Bool.not_false, IntKind.bits, w_nat, w_lit, w_add, w_addl, w_ladd, w_sub, w_subl, w_lsub, w_mul, w_mull, w_lmul, t_div, t_divl, t_mod, t_modl, i_lt, i_ltl, i_llt, i_le, i_lel, i_lle, i_eq, i_eql, i_leq, Nat.zero_le, d_beq, d_bne, d_bytes, byte_at, Int.toNat_natCast, toNat_lit, decide_eq_true, decide_eq_false, if_pos, if_neg, slA_len, slA_idx, slA_cells, flat_slA, one_slA, cells_slA, map_mid, strV_is, hp_get1, hp_get2, hp_get3, hp_set1, hp_set2, hp_set3, hp_old, hp_sold, set_got, set_set, set_next, set_other, bytesL, bytes_all, List.length_map, aapp_nils, aapp_wr, List.flatMap_cons, List.flatMap_nil, Nat.mul_one]
    rw [hp_nil]
    have hpush : H.push (.row 94 0 y.cells) = hp H [.row 94 0 y.cells] := by
      have := hp_push H [] (.row 94 0 y.cells)
      rw [hp_nil] at this
      exact this
    have hw2 : (H.push (.row 94 0 y.cells)).within (H.push (.row 94 0 y.cells)).next := by
      rw [hpush]
      refine within_hp2 hs (fun o ho => ?_)
      rw [List.mem_singleton] at ho
      subst ho
      exact fun c hc => up_under (Nat.le_succ _) (hs idv _ (H.lt hv) hv c hc)
    exact aret_full (Nat.le_succ _) hw2 (.wr _ _ _ _ _ (Nat.lt_succ_self _)) (hfin hw2)
  · have hne : idv ≠ id := fun e => hvn gen 0 xs.length 2 (by rw [e])
    have hfl := flat_length _ _ hx
    refine acalls_cap (pre := []) hg (fun cap hc1 hc2 => ?_)
    have hpt : (padC (0 + cap * 2) (xs.flatMap AV.cells)).take (xs.length * 2) = xs.flatMap AV.cells := by
      rw [padC_take _ _ (by omega), List.take_of_length_le (by omega)]
    have hpa : (padC (0 + cap * 2) (xs.flatMap AV.cells)).take (at_ * 2) = (xs.take at_).flatMap AV.cells := by
      rw [padC_take _ _ (by omega), flat_take xs at_ hx hat]
    have hall : (padC (0 + cap * 2) (xs.flatMap AV.cells)).take (at_ * 2) ++ y.cells ++ ((padC (0 + cap * 2) (xs.flatMap AV.cells)).take (xs.length * 2)).drop (at_ * 2) = (xs.take at_ ++ [y] ++ xs.drop at_).flatMap AV.cells := by
      rw [hpt, hpa, flat_drop xs at_ hx hat]
      simp
    have hlen := padC_len (0 + cap * 2) (xs.flatMap AV.cells)
    have hlg := H.lt hg
    refine insert_wc (set_got hlg) ((set_other hne).trans hv) hne hy hy1 (by omega) (by rw [hpt]; exact hx1) hc1 hc2 hnb hat (fun R hR hw => ?_) (fun hw => ?_)
    · rw [hR, hall, set_set] at hw ⊢
      refine hk _ _ (.inr ⟨id, gen, ?_, hid, set_got hlg⟩) ⟨Nat.le_refl _, fun i hi => set_other (by omega), fun i o hi hvi => ?_, fun j hj hvj gen2 off2 len2 sz2 e => ?_⟩ hw
      · have : (xs.take at_ ++ [y] ++ xs.drop at_).length = xs.length + 1 := by
          rw [List.length_append, List.length_append, List.length_take, List.length_drop, List.length_singleton]
          omega
        rw [this]
      · have : i ≠ id := fun e => hvi gen 0 xs.length 2 (by rw [e])
        rw [set_other this]
        exact hi
      · cases e
        exact hvj _ _ _ _ rfl
    · rw [hall] at hw ⊢
      refine hk _ _ (.inr ⟨H.next, 0, ?_, hn0, push_get_new _ _⟩) ⟨Nat.le_succ _, fun i hi => ?_, fun i o hi hvi => ?_, fun j hj hvj gen2 off2 len2 sz2 e => ?_⟩ hw
      · have : (xs.take at_ ++ [y] ++ xs.drop at_).length = xs.length + 1 := by
          rw [List.length_append, List.length_append, List.length_take, List.length_drop, List.length_singleton]
          omega
        rw [this]
        rfl
      · rw [push_get_old _ _ _ (by rw [set_next]; omega)]
        exact set_other (by omega)
      · have : i ≠ id := fun e => hvi gen 0 xs.length 2 (by rw [e])
        rw [push_get_old _ _ _ (by rw [set_next]; exact H.lt hi), set_other this]
        exact hi
      · cases e
        have : (H.set id (.row 94 gen (padC (0 + cap * 2) (xs.flatMap AV.cells)))).next = H.next := rfl
        omega
end
end Go.Proofs.Ytfilheaaacffmaa.AL

