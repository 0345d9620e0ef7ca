/- Cells told: families, spans, steps. -/
import Derived.Test.YtmdgjfadbhenjaaGreatDoorQCellsIsALCe1
set_option linter.unusedSimpArgs false
set_option linter.unusedVariables false
set_option maxRecDepth 100000
set_option maxHeartbeats 16000000
namespace Go.Proofs.YtmdgjfadbhenjaaGreatDoor.AL
open Go Go.Proofs
attribute [local go_sem] go_seq go_skip go_region go_regionN go_fregion rgF_some go_cond go_block go_exit go_ret nxt_nil nxt_code nxt_blk nxt_cut leave_nil leave_code leave_cut leave_blk rtn_nil rtn_code rtn_blk rtn_cut cnd_t cnd_f rgn_nil rgY_some rgY_none rgH_some rgP_some retTo_is rgV_func grd_und grd_tt grd_ff grd_tf grd_ft rgn_q rgn_alloc rgn_box rgn_store rgn_lit rgn_litw rgn_litc litCells_nil litCells_cons rgn_app rgn_copy rgn_mk rgn_s2b rgn_call rgn_callv rgn_stop rgn_slice3 aslice3 rgn_slice3l aslice3l rgn_appz rgn_clear rgn_range rgn_next arange acap rgn_put rgn_mkmap rgn_lookup rgn_mapup alookup_nilm alookup_map amapup_map afound_ok afound_no rgn_c rgn_cv qclV_func aloadr rgn_guard post_ret post_normal retY_some ares aresL ares1 AX.ev aput List.getD_cons_zero List.getD_cons_succ List.set_cons_zero List.set_cons_succ List.map_cons List.map_nil aq abin aint astr abeq aconv asame aextract alenS alenL_nils alenL_emp alenL_imm alenL_wr alenL_wc aun apart aload afieldAddr afield aidxSl_wr aidxSl_wc aidxSl_imm aidxPt aidxStr aidxArr abound asliceStr asliceSl asliceArr abest anonil afill astore acells_nils acells_emp acells_imm acells_wr acells_wc acells_str acopy litAll amk as2b anil nilOf aseq aeqs aeqv fits fit1 hp_next hp_push hp_get hp_set List.length_cons List.length_nil List.getElem?_cons_zero List.getElem?_cons_succ List.cons_append List.nil_append List.append_nil List.take_succ_cons List.take_zero List.drop_succ_cons List.drop_zero List.all_cons List.all_nil Option.map_some Option.some.injEq Bool.and_true Bool.true_and Bool.false_eq_true if_true if_false ite_true ite_false Bool.and_self true_and and_true and_self Nat.zero_add Nat.le_refl Int.toNat_natCast beq_self_eq_true eq_self tops_zero tops_succ Int.natCast_nonneg List.take_nil List.drop_nil Option.map_none flat_bool one_bool cells_bool flat_int one_int cells_int flat_str one_str cells_str flat_nilp one_nilp cells_nilp flat_ptr one_ptr cells_ptr flat_nils one_nils cells_nils flat_imm one_imm cells_imm flat_wr one_wr cells_wr flat_wc one_wc cells_wc flat_func one_func cells_func flat_nilf one_nilf cells_nilf flat_map one_map cells_map flat_nilm one_nilm cells_nilm flat_iface one_iface cells_iface flat_nili one_nili cells_nili flat_rd one_rd cells_rd flat_emp one_emp cells_emp flat_byteV one_byteV cells_byteV flat_agg cells_agg one_agg B_size B_list B_ext B_toList B_app List.take_length Int.le_refl
def famV : Option (Tr × Tr) → AV
  | some (k, u) => .tup [k.V, u.V, .bool true]
  | none => .tup [tr0.V, tr0.V, .bool false]
theorem joins_le {p : List UInt8} {ns : List (List UInt8)} (h : partsP p = some ns) (hp_ : p.length ≤ 5000) (i : Nat) : (ns.take i).length ≤ 65536 ∧ (∀ s ∈ ns.take i, s.length ≤ 65536) ∧ (joinPs (ns.take i)).length ≤ 50000 := by
  have h8 := partsP_le h
  have hm : ∀ s ∈ ns.take i, s.length ≤ 5000 := fun s hs => Nat.le_trans (parts_mem h s (List.mem_of_mem_take hs)) hp_
  have hl : (ns.take i).length ≤ 8 := by rw [List.length_take]; omega
  have hj := joinPs_len hm
  have := Nat.mul_le_mul_right (5000 + 1) hl
  refine ⟨by omega, fun s hs => Nat.le_trans (hm s hs) (by decide), by omega⟩
theorem walkTo_m {n : Nat} : ∀ (ns : List (List UInt8)) (t k : Tr), TrM n t → walkTo t ns = some k → TrM n k
  | [], t, k, h, hw => by
    rw [walkTo] at hw
    obtain rfl := Option.some.inj hw
    exact h
  | nm :: ns, t, k, h, hw => by
    rw [walkTo] at hw
    cases hk : kidT t nm with
    | none => rw [hk] at hw; cases hw
    | some x =>
      rw [hk] at hw
      exact walkTo_m ns x k (h.ks x (List.mem_of_find?_eq_some hk)) hw
theorem findT_m {n : Nat} {t k : Tr} {p : List UInt8} (h : TrM n t) (hf : findT t p = some k) : TrM n k := by
  unfold findT at hf
  split at hf
  · exact walkTo_m _ t k h hf
  · cases hf
theorem getD_m {n : Nat} {x : Option Tr} (h : ∀ k, x = some k → TrM n k) : TrM n (x.getD tr0) := by
  cases x with
  | none => exact trm_0 _
  | some k => exact h k rfl
theorem valT_m {n : Nat} {t : Tr} {nm v : List UInt8} (h : TrM n t) (hv : valT t nm = some v) : v.length ≤ 100000 := by
  unfold valT at hv
  obtain ⟨p, hp, rfl⟩ := Option.map_eq_some_iff.1 hv
  exact (h.ps p (List.mem_of_find?_eq_some hp)).2
theorem famO_m {n : Nat} {t : Tr} {p : List UInt8} (h : TrM n t) : TrM n ((famO t p).getD (tr0, tr0)).1 ∧ TrM n ((famO t p).getD (tr0, tr0)).2 := by
  unfold famO
  split
  · rename_i ns k h1 h2
    split
    · exact ⟨trm_0 _, trm_0 _⟩
    · exact ⟨findT_m h h2, getD_m (fun x hx => findT_m h hx)⟩
  · exact ⟨trm_0 _, trm_0 _⟩
section
variable {H : AHeap} {K : AV → AHeap → Prop}
theorem family_a {n : Nat} {t : Tr} {p : List UInt8} (hn : n ≤ 100000) (hm : TrM n t) (hp_ : p.length ≤ 5000) (h : K (famV (famO t p)) H) : (ACalls Tryz.prog) 74 [t.V, .str (B p)] H K := by
  refine acalls_go mo t74 (fun hs hu => ?_)
  have ho := trm_ok (by omega) hm
  have hVi := Tr.V_is t
  have e0 : tr0.V = .agg [.str (B []), .nils, .nils] := tr0_V
  unfold famO at h
  simp only [c74, Tr.V_is, go_sem, Nat.reduceLeDiff, Nat.reduceAdd, Nat.reduceSub, Nat.reduceMul, Nat.reduceLT, Int.reduceLT, Int.reduceLE, Int.reduceAdd, Int.reduceSub, Int.reduceMul, Int.reduceToNat, Int.reduceNeg, Int.reduceEq, Nat.reducePow, Int.reducePow, Nat.reduceEqDiff, decide_true, decide_false, reduceIte, reduceCtorEq, Int.reduceBEq, Int.reduceBNe, bne_self_eq_false, Int.cast_ofNat_Int, Bool.not_true, Bool.not_false, IntKind.bits]
  refine Parts_a (by omega) (fun k => ?_)
  cases hpp : partsP p with
  | none =>
    rw [hpp] at h
    have hx : K (.tup [tr0.V, tr0.V, .bool false]) H := h
    rw [e0] at hx
    rw [partsV_n]
    refine stp0 ?_
    rw [← hVi]
    refine Find_a ho (by omega) ?_
    rw [foundV_is]
    generalize findT t p = fz at *
    have hVf := Tr.V_is (fz.getD tr0)
    refine stp0 ?_
    exact aret_u hs (hx)
  | some ns =>
    rw [hpp] at h
    rw [partsV_s]
    refine stp0 ?_
    rw [← hVi]
    refine Find_a ho (by omega) ?_
    cases hf : findT t p with
    | none =>
      rw [hf] at h
      have hx : K (.tup [tr0.V, tr0.V, .bool false]) H := h
      rw [e0] at hx
      rw [foundV_n]
      refine stp0 ?_
      exact aret_u hs (hx)
    | some x =>
      rw [hf] at h
      simp only at h
      rw [foundV_s]
      by_cases h0 : ns = []
      · rw [if_pos h0] at h
        have hx : K (.tup [tr0.V, tr0.V, .bool false]) H := h
        rw [e0] at hx
        subst h0
        refine stp0 ?_
        exact aret_u hs (hx)
      · have hl := List.length_pos_iff.2 h0
        have h8 := partsP_le hpp
        rw [if_neg h0] at h
        obtain ⟨j1, j2, j3⟩ := joins_le hpp hp_ (ns.length - 1)
        obtain ⟨k2, e2⟩ := slA_cut k 1 (ns.map strV) (i := ns.length - 1) (by rw [List.length_map]; omega)
        rw [← List.map_take] at e2
        simp only [asliceSl, abound] at e2
        refine stp e2 ?_
        refine ⟨_, Join_a j1 j2 ⟨rfl, rfl⟩, ?_⟩
        refine stp0 ?_
        rw [← hVi]
        refine Find_a ho (by omega) ?_
        rw [foundV_is]
        generalize findT t (joinPs (ns.take (ns.length - 1))) = fz at *
        have hx : K (.tup [x.V, (fz.getD tr0).V, .bool true]) H := h
        have hVx := Tr.V_is x
        have hVz := Tr.V_is (fz.getD tr0)
        have hux := Tr.V_u H.next x
        have huz := Tr.V_u H.next (fz.getD tr0)
        rw [hVx] at hux hx
        rw [hVz] at huz hx
        refine stp0 ?_
        have hG : Past H ((hp H [trRow t, trRow tr0, trRow tr0, trRow x, trRow (fz.getD tr0)]).kill (H.next + 4)) := past_kill (past_hp past_refl _) (by omega)
        have hg1 : ((hp H [trRow t, trRow tr0, trRow tr0, trRow x, trRow (fz.getD tr0)]).kill (H.next + 4)).get (H.next + 1) = some (trRow tr0) := by rw [kill_get_ne _ _ _ (by omega)]; exact hp_get _ _ 1
        have hg2 : ((hp H [trRow t, trRow tr0, trRow tr0, trRow x, trRow (fz.getD tr0)]).kill (H.next + 4)).get (H.next + 2) = some (trRow tr0) := by rw [kill_get_ne _ _ _ (by omega)]; exact hp_get _ _ 2
        have hg3 : ((hp H [trRow t, trRow tr0, trRow tr0, trRow x, trRow (fz.getD tr0)]).kill (H.next + 4)).get (H.next + 3) = some (trRow x) := by rw [kill_get_ne _ _ _ (by omega)]; exact hp_get _ _ 3
        rw [frz_one (t := 11) rfl (hp_get _ _ 4)]
        simp only [trRow_is] at hG hg1 hg2 hg3
        rw [show ([AV.str (B tr0.name), slA tr0.kp 2 (tr0.props.map propV), slA tr0.kk 3 (tr0.kids.map Tr.V)] : List AV) = [.str (B []), .nils, .nils] from rfl] at hG hg1 hg2 hg3
        generalize (hp H [_, _, _, _, _]).kill (H.next + 4) = G at *
        have hl1 := G.lt hg1
        have hl2 := G.lt hg2
        have hl3 := G.lt hg3
        rw [← hp_nil (H := G)]
        refine stp (And.intro hg1 (And.intro hg2 hg3)) ?_
        refine aret_past (past_hp (past_set (past_set hG (by omega) _) (by omega) _) []) hs ?_ hx
        simp only [u_tup, u_cons, u_nil, u_bool, and_true]
        exact ⟨hux, huz⟩
end
theorem rowG {r : List Int} {i : Nat} (h : i < r.length) : (r.map (AV.int .i64))[i]? = some (.int .i64 (r.getD i 0)) := int_at h
theorem map_stepC {α β : Type} (f : α → β) {l : List α} {i : Nat} {d : α} (h : i < l.length) : (l.take (i + 1)).map f = (l.take i).map f ++ [f (l.getD i d)] := by
  rw [List.take_add_one, List.getElem?_eq_getElem h, List.map_append, List.getD_eq_getElem?_getD, List.getElem?_eq_getElem h]
  rfl
def spR (r : List Int) : Int × Int := (r.getD 0 0, r.getD 1 0)
section
variable {H : AHeap} {K : AV → AHeap → Prop}
theorem regs_a {n : Nat} {t : Tr} {p : List UInt8} (hn : n ≤ 100000) (hm : TrM n t) (hp_ : p.length ≤ 5000) (h : ∀ k, K (.tup [slA k 2 ((regsS t p).1.map spnV), .int .i64 (regsS t p).2]) H) : (ACalls Tryz.prog) 34 [t.V, .str (B p)] H K := by
  refine acalls_go mo t34 (fun hs hu => ?_)
  have ho := trm_ok (by omega) hm
  have hVi := Tr.V_is t
  have e0 : tr0.V = .agg [.str (B []), .nils, .nils] := tr0_V
  obtain ⟨m1, m2⟩ := famO_m (p := p) hm
  unfold regsS kReg at h
  simp only [c34, Tr.V_is, go_sem, Nat.reduceLeDiff, Nat.reduceAdd, Nat.reduceSub, Nat.reduceMul, Nat.reduceLT, Int.reduceLT, Int.reduceLE, Int.reduceAdd, Int.reduceSub, Int.reduceMul, Int.reduceToNat, Int.reduceNeg, Int.reduceEq, Nat.reducePow, Int.reducePow, Nat.reduceEqDiff, decide_true, decide_false, reduceIte, reduceCtorEq, Int.reduceBEq, Int.reduceBNe, bne_self_eq_false, Int.cast_ofNat_Int, Bool.not_true, Bool.not_false, IntKind.bits]
  rw [← hVi]
  refine family_a hn hm hp_ ?_
  cases hf : famO t p with
  | none =>
    rw [hf] at h
    have hx : K (.tup [.nils, .int .i64 8]) H := h 0
    rw [show famV none = .tup [tr0.V, tr0.V, .bool false] from rfl, e0]
    refine stp0 ?_
    rw [← e0]
    refine Value_a (trm_ok (n := n) (by omega) (trm_0 _)) ?_
    rw [show valT tr0 [114, 101, 103] = none from rfl, show valV none = .tup [.str (B []), .bool false] from rfl, e0]
    refine stp0 ?_
    exact aret_u hs (hx)
  | some ku =>
    obtain ⟨kd, up⟩ := ku
    rw [hf] at h m1 m2
    have m1 : TrM n kd := m1
    have m2 : TrM n up := m2
    simp only at h
    have hVk := Tr.V_is kd
    have hVu := Tr.V_is up
    rw [show famV (some (kd, up)) = .tup [kd.V, up.V, .bool true] from rfl, hVk, hVu]
    refine stp0 ?_
    rw [← hVk]
    refine Value_a (trm_ok (by omega) m1) ?_
    rw [hVk]
    cases hv : valT kd [114, 101, 103] with
    | none =>
      rw [hv] at h
      have hx : K (.tup [.nils, .int .i64 8]) H := h 0
      rw [show valV none = .tup [.str (B []), .bool false] from rfl]
      refine stp0 ?_
      exact aret_u hs (hx)
    | some v =>
      have hvl := valT_m m1 hv
      rw [hv] at h
      simp only at h
      rw [show valV (some v) = .tup [.str (B v), .bool true] from rfl]
      refine stp0 ?_
      rw [← hVu]
      refine cells_a (trm_ok (by omega) m2) (fun nm w hw => valT_m m2 hw) ?_
      rw [hVu]
      cases hc : cellsO up with
      | none =>
        rw [hc] at h
        have hx : K (.tup [.nils, .int .i64 6]) H := h 0
        rw [show cellsV none = .tup [.int .i64 0, .int .i64 0, .bool false] from rfl]
        refine stp0 ?_
        exact aret_u hs (hx)
      | some pr =>
        obtain ⟨a, s⟩ := pr
        obtain ⟨c1, c2, c3⟩ := cellsO_le hc
        rw [hc] at h
        simp only at h
        rw [show cellsV (some (a, s)) = .tup [.int .i64 (a : Int), .int .i64 (s : Int), .bool true] from rfl]
        refine stp0 ?_
        rw [show ([AV.int .i64 (a : Int), .int .i64 (s : Int)] : List AV) = [a, s].map colV from rfl]
        refine rows_a (by omega) (by simp) (by simp) (fun c hc => by simp only [List.mem_cons, List.mem_nil_iff, or_false] at hc; rcases hc with rfl | rfl <;> omega) (fun k => ?_)
        obtain ⟨r1, r2⟩ := rowsS_32 v [a, s]
        rw [show ([a, s].map colV) = ([AV.int .i64 (a : Int), .int .i64 (s : Int)] : List AV) from rfl]
        by_cases he : (rowsS v [a, s]).2 = 0
        · generalize rowsS v [a, s] = R at *
          have hl1 : R.1.length ≤ 100000 := by omega
          refine stp he ?_
          refine go_loopS mono (σ := AHeap × AV × Nat) (fun z => [(16, z.2.1), (58, .int .i64 (z.2.2 : Int))]) (fun z => hp z.1 []) (fun z => SlAt H.next z.1 93 2 z.2.1 (((R.1.take z.2.2).map spR).map spnV) ∧ Past H z.1 ∧ z.2.2 ≤ R.1.length) (fun z => R.1.length - z.2.2) (hp H [trRow t, trRow kd, trRow up], .nils, 0) ?_ (by rw [hp_nil]; simp only [trRow_is]) ⟨slat_nil, past_hp past_refl _, Nat.zero_le _⟩ (fun z hz J hJ => ?_)
          · exact fgt
          obtain ⟨G, v2, i⟩ := z
          obtain ⟨hv2, hG, hil⟩ := hz
          simp only at hv2 hG hil
          simp only [blurR_nil, blurR_some, blurR_none, blurC_region, blurC_regionN, blurC_fregion, blurT_nil, blurT_cons, blurC_seq, blurC_both, blurC_cond, blurC_block, blurC_loop, blurC_skip, blurC_exit, blurC_ret, tellS_nil, tellS_cons, List.set_cons_zero, List.set_cons_succ, tops_zero, tops_succ]
          by_cases h1 : i < R.1.length
          · have ha := row_at h1
            have hst := map_stepC spR (d := []) h1
            obtain ⟨q1, q2⟩ := r2 _ (memD (d := []) h1)
            have hJ2 := fun (G2 : AHeap) (v3 : AV) p1 p2 a' => hJ (G2, v3, i + 1) a' ⟨p1, p2, h1⟩ (by show R.1.length - (i + 1) < R.1.length - i; omega)
            clear hJ
            simp only [hst] at hJ2
            have hlt : ((R.1.take i).map spR).length ≤ R.1.length := by rw [List.length_map, List.length_take]; omega
            generalize R.1.getD i [] = r at *
            generalize (R.1.take i).map spR = ys at *
            have q1 : r.length = 2 := q1
            have g0 := rowG (r := r) (i := 0) (by omega)
            have g1 := rowG (r := r) (i := 1) (by omega)
            obtain ⟨v3, G3, w1, w2, w3⟩ := slat_app (b := 16) (ys := [spR r].map spnV) (slat_hp hv2 []) (by rw [hp_nil]; exact hG.next) (spn_len _) (spn_one _) (by simp only [List.length_map, List.length_cons, List.length_nil]; omega)
            rw [← List.map_append] at w2
            have w1 : aapp 93 2 16 (hp G []) v2 (.imm 2 [.agg [.int .i64 (r.getD 0 0), .int .i64 (r.getD 1 0)]]) = some (v3, hp G3 []) := w1
            simp (maxSteps := 4000000) (disch := (first | omega | (simp only [set_next, List.length_append, List.length_cons, List.length_nil, List.length_take, List.length_drop, List.length_map, List.length_set, List.length_replicate]; omega) | (simp only [set_next, ne_eq, reduceCtorEq, not_false_eq_true]))) only [ha, rowV_cells, g0, g1, w1, go_sem, Nat.reduceLeDiff, Nat.reduceAdd, Nat.reduceSub, Nat.reduceMul, Nat.reduceLT, Int.reduceLT, Int.reduceLE, Int.reduceAdd, Int.reduceSub, Int.reduceMul, Int.reduceToNat, Int.reduceNeg, Int.reduceEq, Nat.reducePow, Int.reducePow, Nat.reduceEqDiff, decide_true, decide_false, reduceIte, reduceCtorEq, Int.reduceBEq, Int.reduceBNe, bne_self_eq_false, Int.cast_ofNat_Int, Bool.not_true, Bool.not_false, IntKind.bits, w_nat, w_lit, w_add, w_addl, w_ladd, w_sub, w_subl, w_lsub, w_mul, w_mull, w_lmul, t_div, t_divl, t_mod, t_modl, i_lt, i_ltl, i_llt, i_le, i_lel, i_lle, i_eq, i_eql, i_leq, Nat.zero_le, d_beq, d_bne, d_bytes, byte_at, Int.toNat_natCast, toNat_lit, decide_eq_true, decide_eq_false, if_pos, if_neg, slA_len, slA_idx, slA_cells, flat_slA, one_slA, cells_slA, map_mid, strV_is, hp_get1, hp_get2, hp_get3, hp_set1, hp_set2, hp_set3, hp_old, hp_sold, set_got, set_set, set_next, set_other, bytesL, bytes_all, List.length_map, aapp_nils, aapp_wr, List.flatMap_cons, List.flatMap_nil, Nat.mul_one]
            exact hJ2 G3 v3 w2 (beside_past w3 (Nat.le_refl _) (past_hp hG [])) _ fgt
          · rw [List.take_of_length_le (by omega)] at hv2
            obtain ⟨G5, k5, w1, w2⟩ := slat_shut hv2 (spn_len _)
            have hx := h k5
            rw [he] at hx
            have hx : K (.tup [slA k5 2 ((R.1.map spR).map spnV), .int .i64 0]) H := hx
            refine stp0 ?_
            rw [hp_nil]
            refine aret_shut (.tup _ _ [] [_] _ _ w1) (w2 H (Nat.le_refl _) hG) hs ?_ hx
            show AV.under H.next (.tup [slA k5 2 ((R.1.map spR).map spnV), .int .i64 0])
            simp only [u_tup, u_cons, u_nil, u_int, u_slA, and_true]
            exact spn_u _ _
        · have hnil : (rowsS v [a, s]).1 = [] := by
            unfold rowsS at he ⊢
            split
            · rename_i hc2
              rw [if_pos hc2] at he
              cases hr : rowsR [a, s] [a, s].sum (v.length / 4 / [a, s].sum) (words (v.length / 4) v) with
              | none => rfl
              | some l => rw [hr] at he; exact absurd rfl he
            · rfl
          rw [hnil] at h
          have hx := h 0
          generalize rowsS v [a, s] = R at *
          have hx : K (.tup [.nils, .int .i64 R.2]) H := hx
          refine stp he ?_
          exact aret_u hs (hx)
theorem thru1_a {id : Nat} {at_ : Int} {r : List Int} (hg : H.get id = some (.row 3 0 [.int .i64 at_])) (hr : r.length = 3) (h0 : 0 ≤ r.getD 0 0) (ha : 0 ≤ at_ ∧ at_ ≤ 4294967295) (hr0 : r.getD 0 0 ≤ 4294967295) (h : K (.bool (inRow at_ r)) H) : (ACalls Tryz.prog) 131 [rowV r, .ptr id 0 0] H K := by
  refine acalls_go mo t131 (fun hs hu => ?_)
  have hlt := H.lt hg
  have g0 := rowG (r := r) (i := 0) (by omega)
  have g2 := rowG (r := r) (i := 2) (by omega)
  unfold inRow at h
  simp only [c131, rowV_is, go_sem, Nat.reduceLeDiff, Nat.reduceAdd, Nat.reduceSub, Nat.reduceMul, Nat.reduceLT, Int.reduceLT, Int.reduceLE, Int.reduceAdd, Int.reduceSub, Int.reduceMul, Int.reduceToNat, Int.reduceNeg, Int.reduceEq, Nat.reducePow, Int.reducePow, Nat.reduceEqDiff, decide_true, decide_false, reduceIte, reduceCtorEq, Int.reduceBEq, Int.reduceBNe, bne_self_eq_false, Int.cast_ofNat_Int, Bool.not_true, Bool.not_false, IntKind.bits]
  by_cases h1 : r.getD 0 0 ≤ at_
  · rw [decide_eq_true h1, Bool.true_and] at h
    have hw : IntKind.wrap .i64 (at_ - r.getD 0 0) = at_ - r.getD 0 0 := wi64 (by omega) (by omega)
    simp (maxSteps := 4000000) (disch := (first | omega | (simp only [set_next, List.length_append, List.length_cons, List.length_nil, List.length_take, List.length_drop, List.length_map, List.length_set, List.length_replicate]; omega) | (simp only [set_next, ne_eq, reduceCtorEq, not_false_eq_true]))) only [hg, g0, g2, h1, hw, go_sem, Nat.reduceLeDiff, Nat.reduceAdd, Nat.reduceSub, Nat.reduceMul, Nat.reduceLT, Int.reduceLT, Int.reduceLE, Int.reduceAdd, Int.reduceSub, Int.reduceMul, Int.reduceToNat, Int.reduceNeg, Int.reduceEq, Nat.reducePow, Int.reducePow, Nat.reduceEqDiff, decide_true, decide_false, reduceIte, reduceCtorEq, Int.reduceBEq, Int.reduceBNe, bne_self_eq_false, Int.cast_ofNat_Int, Bool.not_true, Bool.not_false, IntKind.bits, w_nat, w_lit, w_add, w_addl, w_ladd, w_sub, w_subl, w_lsub, w_mul, w_mull, w_lmul, t_div, t_divl, t_mod, t_modl, i_lt, i_ltl, i_llt, i_le, i_lel, i_lle, i_eq, i_eql, i_leq, Nat.zero_le, d_beq, d_bne, d_bytes, byte_at, Int.toNat_natCast, toNat_lit, decide_eq_true, decide_eq_false, if_pos, if_neg, slA_len, slA_idx, slA_cells, flat_slA, one_slA, cells_slA, map_mid, strV_is, hp_get1, hp_get2, hp_get3, hp_set1, hp_set2, hp_set3, hp_old, hp_sold, set_got, set_set, set_next, set_other, bytesL, bytes_all, List.length_map, aapp_nils, aapp_wr, List.flatMap_cons, List.flatMap_nil, Nat.mul_one]
    exact aret_u hs (h)
  · rw [decide_eq_false h1, Bool.false_and] at h
    simp (maxSteps := 4000000) (disch := (first | omega | (simp only [set_next, List.length_append, List.length_cons, List.length_nil, List.length_take, List.length_drop, List.length_map, List.length_set, List.length_replicate]; omega) | (simp only [set_next, ne_eq, reduceCtorEq, not_false_eq_true]))) only [hg, g0, g2, h1, go_sem, Nat.reduceLeDiff, Nat.reduceAdd, Nat.reduceSub, Nat.reduceMul, Nat.reduceLT, Int.reduceLT, Int.reduceLE, Int.reduceAdd, Int.reduceSub, Int.reduceMul, Int.reduceToNat, Int.reduceNeg, Int.reduceEq, Nat.reducePow, Int.reducePow, Nat.reduceEqDiff, decide_true, decide_false, reduceIte, reduceCtorEq, Int.reduceBEq, Int.reduceBNe, bne_self_eq_false, Int.cast_ofNat_Int, Bool.not_true, Bool.not_false, IntKind.bits, w_nat, w_lit, w_add, w_addl, w_ladd, w_sub, w_subl, w_lsub, w_mul, w_mull, w_lmul, t_div, t_divl, t_mod, t_modl, i_lt, i_ltl, i_llt, i_le, i_lel, i_lle, i_eq, i_eql, i_leq, Nat.zero_le, d_beq, d_bne, d_bytes, byte_at, Int.toNat_natCast, toNat_lit, decide_eq_true, decide_eq_false, if_pos, if_neg, slA_len, slA_idx, slA_cells, flat_slA, one_slA, cells_slA, map_mid, strV_is, hp_get1, hp_get2, hp_get3, hp_set1, hp_set2, hp_set3, hp_old, hp_sold, set_got, set_set, set_next, set_other, bytesL, bytes_all, List.length_map, aapp_nils, aapp_wr, List.flatMap_cons, List.flatMap_nil, Nat.mul_one]
    exact aret_u hs (h)
theorem thru_a {k : Nat} {l : List (List Int)} {at_ : Int} (hl : l.length ≤ 1000000) (h32 : ∀ r ∈ l, r.length = 3 ∧ ∀ x ∈ r, 0 ≤ x ∧ x ≤ 4294967295) (ha : 0 ≤ at_ ∧ at_ ≤ 4294967295) (h : K (.tup [.int .i64 (thruS l at_).1, .int .i64 (thruS l at_).2]) H) : (ACalls Tryz.prog) 80 [slA k 1 (l.map rowV), .int .i64 at_] H K := by
  refine acalls_go mo t80 (fun hs hu => ?_)
  unfold thruS at h
  simp only [c80, go_sem, Nat.reduceLeDiff, Nat.reduceAdd, Nat.reduceSub, Nat.reduceMul, Nat.reduceLT, Int.reduceLT, Int.reduceLE, Int.reduceAdd, Int.reduceSub, Int.reduceMul, Int.reduceToNat, Int.reduceNeg, Int.reduceEq, Nat.reducePow, Int.reducePow, Nat.reduceEqDiff, decide_true, decide_false, reduceIte, reduceCtorEq, Int.reduceBEq, Int.reduceBNe, bne_self_eq_false, Int.cast_ofNat_Int, Bool.not_true, Bool.not_false, IntKind.bits]
  refine indexR_a (p := inRow at_) (by omega) (fun r hr K hk => by
    obtain ⟨q1, q2⟩ := h32 r hr
    exact thru1_a (hp_get _ _ 0) q1 (getD_32 q2 0).1 ha (getD_32 q2 0).2 hk) ?_
  rcases ixA_find (inRow at_) [] l 0 with ⟨x1, x2⟩ | ⟨j, x1, x2, x3⟩
  · rw [x2] at h
    have h : K (.tup [.int .i64 0, .int .i64 2]) H := h
    rw [x1]
    refine stp0 ?_
    exact aret_u hs (h)
  · rw [x3] at h
    simp only at h
    rw [x1, Nat.zero_add]
    have hj := row_at x2
    obtain ⟨q1, q2⟩ := h32 _ (memD (d := []) x2)
    have hin : inRow at_ (l.getD j []) = true := List.find?_some x3
    generalize l.getD j [] = r at *
    have g0 := rowG (r := r) (i := 0) (by omega)
    have g1 := rowG (r := r) (i := 1) (by omega)
    have b0 := getD_32 q2 0
    have b1 := getD_32 q2 1
    unfold inRow at hin
    simp only [Bool.and_eq_true, decide_eq_true_eq] at hin
    generalize r.getD 0 0 = r0 at *
    generalize r.getD 1 0 = r1 at *
    have w1 : IntKind.wrap .i64 (r1 + at_) = r1 + at_ := wi64 (by omega) (by omega)
    have w2 : IntKind.wrap .i64 (r1 + at_ - r0) = r1 + at_ - r0 := wi64 (by omega) (by omega)
    have hj0 : ¬ ((j : Int) < 0) := by omega
    simp (maxSteps := 4000000) (disch := (first | omega | (simp only [set_next, List.length_append, List.length_cons, List.length_nil, List.length_take, List.length_drop, List.length_map, List.length_set, List.length_replicate]; omega) | (simp only [set_next, ne_eq, reduceCtorEq, not_false_eq_true]))) only [hj, rowV_cells, g0, g1, w1, w2, hj0, go_sem, Nat.reduceLeDiff, Nat.reduceAdd, Nat.reduceSub, Nat.reduceMul, Nat.reduceLT, Int.reduceLT, Int.reduceLE, Int.reduceAdd, Int.reduceSub, Int.reduceMul, Int.reduceToNat, Int.reduceNeg, Int.reduceEq, Nat.reducePow, Int.reducePow, Nat.reduceEqDiff, decide_true, decide_false, reduceIte, reduceCtorEq, Int.reduceBEq, Int.reduceBNe, bne_self_eq_false, Int.cast_ofNat_Int, Bool.not_true, Bool.not_false, IntKind.bits, w_nat, w_lit, w_add, w_addl, w_ladd, w_sub, w_subl, w_lsub, w_mul, w_mull, w_lmul, t_div, t_divl, t_mod, t_modl, i_lt, i_ltl, i_llt, i_le, i_lel, i_lle, i_eq, i_eql, i_leq, Nat.zero_le, d_beq, d_bne, d_bytes, byte_at, Int.toNat_natCast, toNat_lit, decide_eq_true, decide_eq_false, if_pos, if_neg, slA_len, slA_idx, slA_cells, flat_slA, one_slA, cells_slA, map_mid, strV_is, hp_get1, hp_get2, hp_get3, hp_set1, hp_set2, hp_set3, hp_old, hp_sold, set_got, set_set, set_next, set_other, bytesL, bytes_all, List.length_map, aapp_nils, aapp_wr, List.flatMap_cons, List.flatMap_nil, Nat.mul_one]
    rw [show AV.imm 1 [AV.int .i64 (r1 + at_ - r0)] = slA 2 1 ([r1 + at_ - r0].map (AV.int .i64)) from rfl]
    refine within_a (by simp) ?_
    rw [show List.all [r1 + at_ - r0] in32 = in32 (r1 + at_ - r0) by simp]
    by_cases hz : in32 (r1 + at_ - r0) = true
    · rw [if_pos hz] at h
      rw [hz]
      refine stp0 ?_
      exact aret_u hs (h)
    · rw [if_neg hz] at h
      rw [Bool.not_eq_true] at hz
      rw [hz]
      refine stp0 ?_
      exact aret_u hs (h)
end
theorem in32_is {n : Int} : in32 n = true ↔ 0 ≤ n ∧ n ≤ 4294967295 := by
  unfold in32
  simp only [Bool.and_eq_true, decide_eq_true_eq]
theorem all_one1 (n : Int) : List.all [n] in32 = in32 n := by simp
section
variable {H : AHeap} {K : AV → AHeap → Prop}
theorem step_a {n : Nat} {t : Tr} {p : List UInt8} {at_ : Int} (hn : n ≤ 100000) (hm : TrM n t) (hp_ : p.length ≤ 5000) (h : K (.tup [.int .i64 (stepS t p at_).1, .int .i64 (stepS t p at_).2]) H) : (ACalls Tryz.prog) 37 [t.V, .str (B p), .int .i64 at_] H K := by
  refine acalls_go mo t37 (fun hs hu => ?_)
  have ho := trm_ok (by omega) hm
  have hVi := Tr.V_is t
  have e0 : tr0.V = .agg [.str (B []), .nils, .nils] := tr0_V
  obtain ⟨m1, m2⟩ := famO_m (p := p) hm
  unfold stepS kRng at h
  simp only [c37, Tr.V_is, go_sem, Nat.reduceLeDiff, Nat.reduceAdd, Nat.reduceSub, Nat.reduceMul, Nat.reduceLT, Int.reduceLT, Int.reduceLE, Int.reduceAdd, Int.reduceSub, Int.reduceMul, Int.reduceToNat, Int.reduceNeg, Int.reduceEq, Nat.reducePow, Int.reducePow, Nat.reduceEqDiff, decide_true, decide_false, reduceIte, reduceCtorEq, Int.reduceBEq, Int.reduceBNe, bne_self_eq_false, Int.cast_ofNat_Int, Bool.not_true, Bool.not_false, IntKind.bits]
  rw [← hVi]
  refine family_a hn hm hp_ ?_
  cases hf : famO t p with
  | none =>
    rw [hf] at h
    have hx : K (.tup [.int .i64 0, .int .i64 8]) H := h
    rw [show famV none = .tup [tr0.V, tr0.V, .bool false] from rfl, e0]
    refine stp0 ?_
    rw [← e0]
    refine Value_a (trm_ok (n := n) (by omega) (trm_0 _)) ?_
    rw [valV_is, e0]
    refine stp0 ?_
    exact aret_u hs (hx)
  | some ku =>
    obtain ⟨kd, up⟩ := ku
    rw [hf] at h m1 m2
    have m1 : TrM n kd := m1
    have m2 : TrM n up := m2
    simp only at h
    have hVk := Tr.V_is kd
    have hVu := Tr.V_is up
    rw [show famV (some (kd, up)) = .tup [kd.V, up.V, .bool true] from rfl, hVk, hVu]
    refine stp0 ?_
    rw [← hVk]
    refine Value_a (trm_ok (by omega) m1) ?_
    rw [hVk]
    have hsl : AV.imm 1 [AV.int .i64 at_] = slA 2 1 ([at_].map (AV.int .i64)) := rfl
    by_cases ha : in32 at_ = true
    · rw [if_pos ha] at h
      have ha2 := in32_is.1 ha
      cases hv : valT kd [114, 97, 110, 103, 101, 115] with
      | none =>
        rw [hv] at h
        have hx : K (.tup [.int .i64 0, .int .i64 8]) H := h
        rw [show valV none = .tup [.str (B []), .bool false] from rfl]
        refine stp0 ?_
        rw [hsl]
        refine within_a (by simp) ?_
        rw [all_one1, ha]
        refine stp0 ?_
        exact aret_u hs (hx)
      | some v =>
        have hvl := valT_m m1 hv
        rw [hv] at h
        simp only at h
        rw [show valV (some v) = .tup [.str (B v), .bool true] from rfl]
        by_cases hv0 : v = []
        · rw [if_pos hv0] at h
          subst hv0
          have hx : K (.tup [.int .i64 at_, .int .i64 0]) H := h
          refine stp0 ?_
          rw [hsl]
          refine within_a (by simp) ?_
          rw [all_one1, ha]
          refine stp0 ?_
          exact aret_u hs (hx)
        · rw [if_neg hv0] at h
          refine stp0 ?_
          rw [hsl]
          refine within_a (by simp) ?_
          rw [all_one1, ha]
          refine stp hv0 ?_
          rw [← hVk]
          refine cells_a (trm_ok (by omega) m1) (fun nm w hw => valT_m m1 hw) ?_
          rw [hVk]
          cases hc : cellsO kd with
          | none =>
            rw [hc] at h
            have hx : K (.tup [.int .i64 0, .int .i64 6]) H := h
            rw [show cellsV none = .tup [.int .i64 0, .int .i64 0, .bool false] from rfl]
            refine stp0 ?_
            rw [← hVu]
            refine cells_a (trm_ok (by omega) m2) (fun nm w hw => valT_m m2 hw) ?_
            rw [hVu, cellsV_is]
            generalize cellsO up = z
            refine stp0 ?_
            exact aret_u hs (hx)
          | some pr =>
            obtain ⟨a, s⟩ := pr
            obtain ⟨c1, c2, c3⟩ := cellsO_le hc
            rw [hc] at h
            rw [show cellsV (some (a, s)) = .tup [.int .i64 (a : Int), .int .i64 (s : Int), .bool true] from rfl]
            refine stp0 ?_
            rw [← hVu]
            refine cells_a (trm_ok (by omega) m2) (fun nm w hw => valT_m m2 hw) ?_
            rw [hVu]
            cases hc2 : cellsO up with
            | none =>
              rw [hc2] at h
              have hx : K (.tup [.int .i64 0, .int .i64 6]) H := h
              rw [show cellsV none = .tup [.int .i64 0, .int .i64 0, .bool false] from rfl]
              refine stp0 ?_
              exact aret_u hs (hx)
            | some pr =>
              obtain ⟨b, s2⟩ := pr
              obtain ⟨d1, d2, d3⟩ := cellsO_le hc2
              rw [hc2] at h
              simp only at h
              rw [show cellsV (some (b, s2)) = .tup [.int .i64 (b : Int), .int .i64 (s2 : Int), .bool true] from rfl]
              refine stp0 ?_
              rw [show ([AV.int .i64 (a : Int), .int .i64 (b : Int), .int .i64 (s : Int)] : List AV) = [a, b, s].map colV from rfl]
              refine rows_a (by omega) (by simp) (by simp) (fun c hc => by simp only [List.mem_cons, List.mem_nil_iff, or_false] at hc; rcases hc with rfl | rfl | rfl <;> omega) (fun k => ?_)
              obtain ⟨r1, r2⟩ := rowsS_32 v [a, b, s]
              rw [show ([a, b, s].map colV) = ([AV.int .i64 (a : Int), .int .i64 (b : Int), .int .i64 (s : Int)] : List AV) from rfl]
              generalize rowsS v [a, b, s] = R at *
              by_cases he : R.2 = 0
              · rw [if_pos he] at h
                refine stp he ?_
                refine thru_a (by omega) r2 ha2 ?_
                refine stp0 ?_
                exact aret_u hs (h)
              · rw [if_neg he] at h
                refine stp he ?_
                exact aret_u hs (h)
    · rw [if_neg ha] at h
      have hx : K (.tup [.int .i64 0, .int .i64 1]) H := h
      rw [Bool.not_eq_true] at ha
      rw [valV_is]
      refine stp0 ?_
      rw [hsl]
      refine within_a (by simp) ?_
      rw [all_one1, ha]
      refine stp0 ?_
      exact aret_u hs (hx)
theorem up_a {n : Nat} {t : Tr} {p : List UInt8} {at_ : Int} (hn : n ≤ 100000) (hm : TrM n t) (hp_ : p.length ≤ 900) (h : K (.tup [.int .i64 (upS t p at_).1, .int .i64 (upS t p at_).2]) H) : (ACalls Tryz.prog) 39 [t.V, .str (B p), .int .i64 at_] H K := by
  refine acalls_go mo t39 (fun hs hu => ?_)
  have ho := trm_ok (by omega) hm
  have hVi := Tr.V_is t
  have e0 : tr0.V = .agg [.str (B []), .nils, .nils] := tr0_V
  unfold upS at h
  simp only [c39, Tr.V_is, go_sem, Nat.reduceLeDiff, Nat.reduceAdd, Nat.reduceSub, Nat.reduceMul, Nat.reduceLT, Int.reduceLT, Int.reduceLE, Int.reduceAdd, Int.reduceSub, Int.reduceMul, Int.reduceToNat, Int.reduceNeg, Int.reduceEq, Nat.reducePow, Int.reducePow, Nat.reduceEqDiff, decide_true, decide_false, reduceIte, reduceCtorEq, Int.reduceBEq, Int.reduceBNe, bne_self_eq_false, Int.cast_ofNat_Int, Bool.not_true, Bool.not_false, IntKind.bits]
  refine Parts_a (by omega) (fun k => ?_)
  cases hpp : partsP p with
  | none =>
    rw [hpp] at h
    have hx : K (.tup [.int .i64 0, .int .i64 8]) H := h
    rw [partsV_n]
    refine stp0 ?_
    rw [← hVi]
    refine Find_a ho (by omega) ?_
    rw [foundV_is]
    generalize findT t p = fz at *
    refine stp0 ?_
    exact aret_u hs (hx)
  | some ns =>
    rw [hpp] at h
    rw [partsV_s]
    refine stp0 ?_
    rw [← hVi]
    refine Find_a ho (by omega) ?_
    cases hf : findT t p with
    | none =>
      rw [hf] at h
      have hx : K (.tup [.int .i64 0, .int .i64 8]) H := h
      rw [foundV_n]
      refine stp0 ?_
      exact aret_u hs (hx)
    | some x =>
      rw [hf] at h
      simp only at h
      rw [foundV_s, hVi]
      have hsl : AV.imm 1 [AV.int .i64 at_] = slA 2 1 ([at_].map (AV.int .i64)) := rfl
      refine stp0 ?_
      rw [hsl]
      refine within_a (by simp) ?_
      rw [all_one1]
      by_cases ha : in32 at_ = true
      · rw [if_pos ha] at h
        rw [ha]
        have h8 := partsP_le hpp
        refine stp0 ?_
        refine go_loopS mono (σ := Nat × Int) (fun z => [(2, .int .i64 z.2), (12, .int .i64 (z.1 : Int))]) (fun z => hp H [trRow t, trRow x]) (fun z => z.1 ≤ ns.length ∧ upL t ns z.1 z.2 = upL t ns ns.length at_) (fun z => z.1) (ns.length, at_) ?_ (by simp only [trRow_is]) ⟨Nat.le_refl _, rfl⟩ (fun z hz J hJ => ?_)
        · exact fgt
        obtain ⟨i, b⟩ := z
        obtain ⟨hil, hup⟩ := hz
        simp only at hil hup
        have hrt := trRow_is t
        have hrx := trRow_is x
        rw [hrt, hrx] at hJ ⊢
        simp only [blurR_nil, blurR_some, blurR_none, blurC_region, blurC_regionN, blurC_fregion, blurT_nil, blurT_cons, blurC_seq, blurC_both, blurC_cond, blurC_block, blurC_loop, blurC_skip, blurC_exit, blurC_ret, tellS_nil, tellS_cons, List.set_cons_zero, List.set_cons_succ, tops_zero, tops_succ]
        cases i with
        | zero =>
          rw [upL] at hup
          rw [← hup] at h
          refine stp0 ?_
          exact aret_u hs (h)
        | succ i =>
          rw [upL] at hup
          have hJ2 := fun (b2 : Int) p1 a' => hJ (i, b2) a' ⟨by show i ≤ ns.length; omega, p1⟩ (by show i < i + 1; omega)
          clear hJ
          have hil : i + 1 ≤ ns.length := hil
          obtain ⟨j1, j2, j3⟩ := joins_le hpp (by omega) (i + 1)
          have hjl : (joinPs (ns.take (i + 1))).length ≤ 5000 := by
            have hj := joinPs_le hpp (i + 1)
            omega
          obtain ⟨k2, e2⟩ := slA_cut k 1 (ns.map strV) (i := i + 1) (by rw [List.length_map]; omega)
          rw [← List.map_take] at e2
          simp only [asliceSl, abound] at e2
          refine stp e2 ?_
          refine ⟨_, Join_a j1 j2 ⟨rfl, rfl⟩, ?_⟩
          refine stp0 ?_
          rw [← hVi]
          refine step_a hn hm hjl ?_
          generalize stepS t (joinPs (ns.take (i + 1))) b = r at *
          rw [hVi]
          by_cases he : r.2 = 0
          · rw [if_pos he] at hup
            refine stp he ?_
            exact hJ2 r.1 hup _ fgt
          · rw [if_neg he] at hup
            rw [← hup] at h
            refine stp he ?_
            exact aret_u hs (h)
      · rw [if_neg ha] at h
        have hx : K (.tup [.int .i64 0, .int .i64 1]) H := h
        rw [Bool.not_eq_true] at ha
        rw [ha]
        refine stp0 ?_
        exact aret_u hs (hx)
end
theorem words_get : ∀ (n : Nat) (v : List UInt8) (j : Nat), j < n → (words n v).getD j 0 = (big ((v.drop (4 * j)).take 4) : Int)
  | 0, v, j, h => by omega
  | n + 1, v, j, h => by
    rw [words_snoc, List.getD_eq_getElem?_getD]
    by_cases hj : j < n
    · rw [List.getElem?_append_left (by rw [words_len]; exact hj), ← List.getD_eq_getElem?_getD]
      exact words_get n v j hj
    · have : j = n := by omega
      subst this
      rw [List.getElem?_append_right (by rw [words_len]; omega), words_len, Nat.sub_self]
      rfl
theorem words_slice {v : List UInt8} {a c : Nat} (h : 4 * (a + c) ≤ v.length) : allW ((v.take (4 * a + 4 * c)).drop (4 * a)) = ((words (v.length / 4) v).drop a).take c := by
  have hl : ((v.take (4 * a + 4 * c)).drop (4 * a)).length = 4 * c := by
    rw [List.length_drop, List.length_take]
    omega
  unfold allW
  rw [hl, if_pos (by omega), show 4 * c / 4 = c by omega]
  apply List.ext_getElem?
  intro j
  by_cases hj : j < c
  · have h1 := words_get c ((v.take (4 * a + 4 * c)).drop (4 * a)) j hj
    have h2 := words_get (v.length / 4) v (a + j) (by omega)
    rw [List.getD_eq_getElem?_getD, List.getElem?_eq_getElem (by rw [words_len]; exact hj)] at h1
    rw [List.getElem?_eq_getElem (by rw [words_len]; exact hj), List.getElem?_take, if_pos hj, List.getElem?_drop]
    rw [List.getD_eq_getElem?_getD, List.getElem?_eq_getElem (by rw [words_len]; omega)] at h2
    rw [List.getElem?_eq_getElem (by rw [words_len]; omega)]
    refine congrArg some ?_
    have h1 : (words c ((v.take (4 * a + 4 * c)).drop (4 * a)))[j]'(by rw [words_len]; exact hj) = _ := h1
    have h2 : (words (v.length / 4) v)[a + j]'(by rw [words_len]; omega) = _ := h2
    rw [h1, h2]
    have e : ((((v.take (4 * a + 4 * c)).drop (4 * a)).drop (4 * j)).take 4) = (v.drop (4 * (a + j))).take 4 := by
      rw [List.drop_drop, List.drop_take, List.take_take, Nat.min_eq_left (by omega), show 4 * a + 4 * j = 4 * (a + j) by omega]
    rw [e]
  · rw [List.getElem?_eq_none (by rw [words_len]; omega), List.getElem?_eq_none (by rw [List.length_take]; omega)]
def row3V (r : List Int) : AV := .agg (r.map (AV.int .i64))
theorem row3V_cells (r : List Int) : (row3V r).cells = r.map (AV.int .i64) := rfl
theorem row3_at {l : List (List Int)} {i : Nat} (h : i < l.length) : (l.map row3V)[i]? = some (row3V (l.getD i [])) := by
  rw [List.getElem?_map, List.getElem?_eq_getElem h, List.getD_eq_getElem?_getD, List.getElem?_eq_getElem h]
  rfl
theorem row3_len {L : List (List Int)} (h : ∀ r ∈ L, r.length = 3) : ∀ x ∈ L.map row3V, x.cells.length = 3 := fun x hx => by
  obtain ⟨r, hr, rfl⟩ := List.mem_map.1 hx
  rw [row3V_cells, List.length_map, h r hr]
theorem row3_one (L : List (List Int)) : ((L.map row3V).flatMap AV.cells).all AV.one = true := by
  rw [List.all_eq_true]
  intro x hx
  obtain ⟨y, hy, hx⟩ := List.mem_flatMap.1 hx
  obtain ⟨r, _, rfl⟩ := List.mem_map.1 hy
  rw [row3V_cells] at hx
  obtain ⟨n, _, rfl⟩ := List.mem_map.1 hx
  rfl
theorem row3_u (n : Nat) (L : List (List Int)) : AllC n (L.map row3V) := uc_map n L (fun r => by rw [row3V_cells, u_ints]; trivial)
/-- A column's number, and whether it may be. -/
def cellN (l : List Int) : Int := if l = [] then 0 else l.getD (l.length - 1) 0
def cellB (l : List Int) : Bool := decide (l.length ≤ 1) || decide (l.getD 0 0 = 0)
section
variable {H : AHeap} {K : AV → AHeap → Prop}
theorem word_a {n : Int} (h : K (.bool (in32 n)) H) : (ACalls Tryz.prog) 81 [.int .i64 n] H K := by
  refine acalls_go mo t81 (fun hs hu => ?_)
  unfold in32 at h
  simp only [c81, go_sem, Nat.reduceLeDiff, Nat.reduceAdd, Nat.reduceSub, Nat.reduceMul, Nat.reduceLT, Int.reduceLT, Int.reduceLE, Int.reduceAdd, Int.reduceSub, Int.reduceMul, Int.reduceToNat, Int.reduceNeg, Int.reduceEq, Nat.reducePow, Int.reducePow, Nat.reduceEqDiff, decide_true, decide_false, reduceIte, reduceCtorEq, Int.reduceBEq, Int.reduceBNe, bne_self_eq_false, Int.cast_ofNat_Int, Bool.not_true, Bool.not_false, IntKind.bits]
  by_cases h1 : 0 ≤ n
  · rw [decide_eq_true h1, Bool.true_and] at h
    refine stp h1 ?_
    exact aret_u hs (h)
  · rw [decide_eq_false h1, Bool.false_and] at h
    refine stp h1 ?_
    exact aret_u hs (h)
theorem count_a {t : Tr} {nm : List UInt8} {u : Nat} (ho : TrOk t) (hl : ∀ v, valT t nm = some v → v.length ≤ 100000) (h : K (.int .i64 (match cntO t nm u with
    | some n => (n : Int)
    | none => -1)) H) : (ACalls Tryz.prog) 73 [t.V, .str (B nm), .int .i64 (u : Int)] H K := by
  refine acalls_go mo t73 (fun hs hu => ?_)
  have hVi := Tr.V_is t
  unfold cntO at h
  simp only [c73, Tr.V_is, go_sem, Nat.reduceLeDiff, Nat.reduceAdd, Nat.reduceSub, Nat.reduceMul, Nat.reduceLT, Int.reduceLT, Int.reduceLE, Int.reduceAdd, Int.reduceSub, Int.reduceMul, Int.reduceToNat, Int.reduceNeg, Int.reduceEq, Nat.reducePow, Int.reducePow, Nat.reduceEqDiff, decide_true, decide_false, reduceIte, reduceCtorEq, Int.reduceBEq, Int.reduceBNe, bne_self_eq_false, Int.cast_ofNat_Int, Bool.not_true, Bool.not_false, IntKind.bits]
  rw [← hVi]
  refine rValue_a ho ?_
  rw [valV_is]
  cases hv : valT t nm with
  | none =>
    rw [hv] at h
    have h : K (.int .i64 (u : Int)) H := h
    simp (maxSteps := 4000000) (disch := (first | omega | (simp only [set_next, List.length_append, List.length_cons, List.length_nil, List.length_take, List.length_drop, List.length_map, List.length_set, List.length_replicate]; omega) | (simp only [set_next, ne_eq, reduceCtorEq, not_false_eq_true]))) only [Option.isSome_none, Option.getD_none, go_sem, Nat.reduceLeDiff, Nat.reduceAdd, Nat.reduceSub, Nat.reduceMul, Nat.reduceLT, Int.reduceLT, Int.reduceLE, Int.reduceAdd, Int.reduceSub, Int.reduceMul, Int.reduceToNat, Int.reduceNeg, Int.reduceEq, Nat.reducePow, Int.reducePow, Nat.reduceEqDiff, decide_true, decide_false, reduceIte, reduceCtorEq, Int.reduceBEq, Int.reduceBNe, bne_self_eq_false, Int.cast_ofNat_Int, Bool.not_true, Bool.not_false, IntKind.bits, w_nat, w_lit, w_add, w_addl, w_ladd, w_sub, w_subl, w_lsub, w_mul, w_mull, w_lmul, t_div, t_divl, t_mod, t_modl, i_lt, i_ltl, i_llt, i_le, i_lel, i_lle, i_eq, i_eql, i_leq, Nat.zero_le, d_beq, d_bne, d_bytes, byte_at, Int.toNat_natCast, toNat_lit, decide_eq_true, decide_eq_false, if_pos, if_neg, slA_len, slA_idx, slA_cells, flat_slA, one_slA, cells_slA, map_mid, strV_is, hp_get1, hp_get2, hp_get3, hp_set1, hp_set2, hp_set3, hp_old, hp_sold, set_got, set_set, set_next, set_other, bytesL, bytes_all, List.length_map, aapp_nils, aapp_wr, List.flatMap_cons, List.flatMap_nil, Nat.mul_one]
    exact aret_u hs (h)
  | some v =>
    rw [hv] at h
    simp only at h
    simp (maxSteps := 4000000) (disch := (first | omega | (simp only [set_next, List.length_append, List.length_cons, List.length_nil, List.length_take, List.length_drop, List.length_map, List.length_set, List.length_replicate]; omega) | (simp only [set_next, ne_eq, reduceCtorEq, not_false_eq_true]))) only [Option.isSome_some, Option.getD_some, go_sem, Nat.reduceLeDiff, Nat.reduceAdd, Nat.reduceSub, Nat.reduceMul, Nat.reduceLT, Int.reduceLT, Int.reduceLE, Int.reduceAdd, Int.reduceSub, Int.reduceMul, Int.reduceToNat, Int.reduceNeg, Int.reduceEq, Nat.reducePow, Int.reducePow, Nat.reduceEqDiff, decide_true, decide_false, reduceIte, reduceCtorEq, Int.reduceBEq, Int.reduceBNe, bne_self_eq_false, Int.cast_ofNat_Int, Bool.not_true, Bool.not_false, IntKind.bits, w_nat, w_lit, w_add, w_addl, w_ladd, w_sub, w_subl, w_lsub, w_mul, w_mull, w_lmul, t_div, t_divl, t_mod, t_modl, i_lt, i_ltl, i_llt, i_le, i_lel, i_lle, i_eq, i_eql, i_leq, Nat.zero_le, d_beq, d_bne, d_bytes, byte_at, Int.toNat_natCast, toNat_lit, decide_eq_true, decide_eq_false, if_pos, if_neg, slA_len, slA_idx, slA_cells, flat_slA, one_slA, cells_slA, map_mid, strV_is, hp_get1, hp_get2, hp_get3, hp_set1, hp_set2, hp_set3, hp_old, hp_sold, set_got, set_set, set_next, set_other, bytesL, bytes_all, List.length_map, aapp_nils, aapp_wr, List.flatMap_cons, List.flatMap_nil, Nat.mul_one]
    refine rasNum_a (hl v hv) ?_
    unfold asNum
    by_cases h4 : v.length = 4
    · simp only [h4, if_true] at h ⊢
      refine stp0 ?_
      exact aret_u hs (h)
    · simp only [h4, if_false] at h ⊢
      refine stp0 ?_
      exact aret_u hs (h)
theorem rcells_a {t : Tr} (ho : TrOk t) (hl : ∀ nm v, valT t nm = some v → v.length ≤ 100000) (h : K (cellsV (cellsO t)) H) : (ACalls Tryz.prog) 33 [t.V] H K := by
  refine acalls_go mo t33 (fun hs hu => ?_)
  have hVi := Tr.V_is t
  unfold cellsO kAdr kSiz at h
  simp only [c33, Tr.V_is, go_sem, Nat.reduceLeDiff, Nat.reduceAdd, Nat.reduceSub, Nat.reduceMul, Nat.reduceLT, Int.reduceLT, Int.reduceLE, Int.reduceAdd, Int.reduceSub, Int.reduceMul, Int.reduceToNat, Int.reduceNeg, Int.reduceEq, Nat.reducePow, Int.reducePow, Nat.reduceEqDiff, decide_true, decide_false, reduceIte, reduceCtorEq, Int.reduceBEq, Int.reduceBNe, bne_self_eq_false, Int.cast_ofNat_Int, Bool.not_true, Bool.not_false, IntKind.bits]
  rw [← hVi]
  refine ⟨_, count_a (u := 2) ho (hl _) ⟨rfl, rfl⟩, ?_⟩
  rw [hVi]
  refine stp0 ?_
  rw [← hVi]
  refine count_a (u := 1) ho (hl _) ?_
  rw [hVi]
  cases h1 : cntO t [35, 97, 100, 100, 114, 101, 115, 115, 45, 99, 101, 108, 108, 115] 2 with
  | none =>
    rw [h1] at h
    have h : K (.tup [.int .i64 0, .int .i64 0, .bool false]) H := h
    generalize (match cntO t _ 1 with
      | some n => (n : Int)
      | none => -1) = z
    refine stp0 ?_
    exact aret_u hs (h)
  | some a =>
    rw [h1] at h
    cases h2 : cntO t [35, 115, 105, 122, 101, 45, 99, 101, 108, 108, 115] 1 with
    | none =>
      rw [h2] at h
      have h : K (.tup [.int .i64 0, .int .i64 0, .bool false]) H := h
      by_cases a1 : a = 1
      · subst a1
        refine stp0 ?_
        exact aret_u hs (h)
      · by_cases a2 : a = 2
        · subst a2
          refine stp0 ?_
          exact aret_u hs (h)
        · refine stp (And.intro a1 a2) ?_
          exact aret_u hs (h)
    | some s =>
      rw [h2] at h
      have h : K (cellsV (if 1 ≤ a ∧ a ≤ 2 ∧ s ≤ 2 then some (a, s) else none)) H := h
      have hs0 : ¬ ((s : Int) < 0) := by omega
      by_cases a1 : a = 1
      · subst a1
        by_cases s2 : s ≤ 2
        · rw [if_pos ⟨by omega, by omega, s2⟩] at h
          have h : K (.tup [.int .i64 1, .int .i64 (s : Int), .bool true]) H := h
          have s3 : ¬ (2 < s) := by omega
          refine stp (And.intro s3 hs0) ?_
          exact aret_u hs (h)
        · rw [if_neg (fun q => s2 q.2.2)] at h
          have h : K (.tup [.int .i64 0, .int .i64 0, .bool false]) H := h
          have s3 : 2 < s := by omega
          refine stp (And.intro s3 hs0) ?_
          exact aret_u hs (h)
      · by_cases a2 : a = 2
        · subst a2
          by_cases s2 : s ≤ 2
          · rw [if_pos ⟨by omega, by omega, s2⟩] at h
            have h : K (.tup [.int .i64 2, .int .i64 (s : Int), .bool true]) H := h
            have s3 : ¬ (2 < s) := by omega
            refine stp (And.intro s3 hs0) ?_
            exact aret_u hs (h)
          · rw [if_neg (fun q => s2 q.2.2)] at h
            have h : K (.tup [.int .i64 0, .int .i64 0, .bool false]) H := h
            have s3 : 2 < s := by omega
            refine stp (And.intro s3 hs0) ?_
            exact aret_u hs (h)
        · rw [if_neg (fun q => by omega)] at h
          have h : K (.tup [.int .i64 0, .int .i64 0, .bool false]) H := h
          refine stp (And.intro a1 a2) ?_
          exact aret_u hs (h)
theorem cell_a {s : List UInt8} (hl : s.length ≤ 100000) (h : K (.tup [.int .i64 (cellN (allW s)), .bool (cellB (allW s))]) H) : (ACalls Tryz.prog) 127 [.str (B s)] H K := by
  refine acalls_go mo t127 (fun hs hu => ?_)
  have hal := allW_len s
  simp only [c127, go_sem, Nat.reduceLeDiff, Nat.reduceAdd, Nat.reduceSub, Nat.reduceMul, Nat.reduceLT, Int.reduceLT, Int.reduceLE, Int.reduceAdd, Int.reduceSub, Int.reduceMul, Int.reduceToNat, Int.reduceNeg, Int.reduceEq, Nat.reducePow, Int.reducePow, Nat.reduceEqDiff, decide_true, decide_false, reduceIte, reduceCtorEq, Int.reduceBEq, Int.reduceBNe, bne_self_eq_false, Int.cast_ofNat_Int, Bool.not_true, Bool.not_false, IntKind.bits]
  refine rfromBigs_a hl ?_
  rw [fromBigs_all]
  generalize allW s = l at *
  generalize decide (s.length % 4 = 0) = bb
  by_cases h0 : l = []
  · subst h0
    have h : K (.tup [.int .i64 0, .bool true]) H := h
    refine stp0 ?_
    exact aret_u hs (h)
  · have hlp := List.length_pos_iff.2 h0
    unfold cellN cellB at h
    rw [if_neg h0] at h
    have g0 := int_at (ls := l) (i := 0) (by omega)
    have g1 := int_at (ls := l) (i := l.length - 1) (by omega)
    have hn0 : ¬ l.length = 0 := by omega
    by_cases h1 : l.length = 1
    · rw [decide_eq_true (show l.length ≤ 1 by omega), Bool.true_or] at h
      have e1 : l.length - 1 = 0 := by omega
      rw [h1] at h g1
      simp (maxSteps := 4000000) (disch := (first | omega | (simp only [set_next, List.length_append, List.length_cons, List.length_nil, List.length_take, List.length_drop, List.length_map, List.length_set, List.length_replicate]; omega) | (simp only [set_next, ne_eq, reduceCtorEq, not_false_eq_true]))) only [g0, g1, h1, go_sem, Nat.reduceLeDiff, Nat.reduceAdd, Nat.reduceSub, Nat.reduceMul, Nat.reduceLT, Int.reduceLT, Int.reduceLE, Int.reduceAdd, Int.reduceSub, Int.reduceMul, Int.reduceToNat, Int.reduceNeg, Int.reduceEq, Nat.reducePow, Int.reducePow, Nat.reduceEqDiff, decide_true, decide_false, reduceIte, reduceCtorEq, Int.reduceBEq, Int.reduceBNe, bne_self_eq_false, Int.cast_ofNat_Int, Bool.not_true, Bool.not_false, IntKind.bits, w_nat, w_lit, w_add, w_addl, w_ladd, w_sub, w_subl, w_lsub, w_mul, w_mull, w_lmul, t_div, t_divl, t_mod, t_modl, i_lt, i_ltl, i_llt, i_le, i_lel, i_lle, i_eq, i_eql, i_leq, Nat.zero_le, d_beq, d_bne, d_bytes, byte_at, Int.toNat_natCast, toNat_lit, decide_eq_true, decide_eq_false, if_pos, if_neg, slA_len, slA_idx, slA_cells, flat_slA, one_slA, cells_slA, map_mid, strV_is, hp_get1, hp_get2, hp_get3, hp_set1, hp_set2, hp_set3, hp_old, hp_sold, set_got, set_set, set_next, set_other, bytesL, bytes_all, List.length_map, aapp_nils, aapp_wr, List.flatMap_cons, List.flatMap_nil, Nat.mul_one]
      exact aret_u hs (h)
    · rw [decide_eq_false (show ¬ l.length ≤ 1 by omega), Bool.false_or] at h
      simp (maxSteps := 4000000) (disch := (first | omega | (simp only [set_next, List.length_append, List.length_cons, List.length_nil, List.length_take, List.length_drop, List.length_map, List.length_set, List.length_replicate]; omega) | (simp only [set_next, ne_eq, reduceCtorEq, not_false_eq_true]))) only [g0, g1, h1, hn0, go_sem, Nat.reduceLeDiff, Nat.reduceAdd, Nat.reduceSub, Nat.reduceMul, Nat.reduceLT, Int.reduceLT, Int.reduceLE, Int.reduceAdd, Int.reduceSub, Int.reduceMul, Int.reduceToNat, Int.reduceNeg, Int.reduceEq, Nat.reducePow, Int.reducePow, Nat.reduceEqDiff, decide_true, decide_false, reduceIte, reduceCtorEq, Int.reduceBEq, Int.reduceBNe, bne_self_eq_false, Int.cast_ofNat_Int, Bool.not_true, Bool.not_false, IntKind.bits, w_nat, w_lit, w_add, w_addl, w_ladd, w_sub, w_subl, w_lsub, w_mul, w_mull, w_lmul, t_div, t_divl, t_mod, t_modl, i_lt, i_ltl, i_llt, i_le, i_lel, i_lle, i_eq, i_eql, i_leq, Nat.zero_le, d_beq, d_bne, d_bytes, byte_at, Int.toNat_natCast, toNat_lit, decide_eq_true, decide_eq_false, if_pos, if_neg, slA_len, slA_idx, slA_cells, flat_slA, one_slA, cells_slA, map_mid, strV_is, hp_get1, hp_get2, hp_get3, hp_set1, hp_set2, hp_set3, hp_old, hp_sold, set_got, set_set, set_next, set_other, bytesL, bytes_all, List.length_map, aapp_nils, aapp_wr, List.flatMap_cons, List.flatMap_nil, Nat.mul_one]
      exact aret_u hs (h)
end
def colN (l : List Int) (s c : Nat) : Int := if 0 < c then l.getD (s + c - 1) 0 else 0
def colB (l : List Int) (s c : Nat) : Bool := !(decide (c = 2) && decide (¬ l.getD s 0 = 0))
theorem cell_col {l : List Int} {s c : Nat} (hc : c ≤ 2) (h : s + c ≤ l.length) : cellN ((l.drop s).take c) = colN l s c ∧ cellB ((l.drop s).take c) = colB l s c := by
  have hlen : ((l.drop s).take c).length = c := by rw [List.length_take, List.length_drop]; omega
  have g : ∀ j, j < c → ((l.drop s).take c).getD j 0 = l.getD (s + j) 0 := fun j hj => by
    rw [List.getD_eq_getElem?_getD, List.getD_eq_getElem?_getD, List.getElem?_take, if_pos hj, List.getElem?_drop]
  unfold cellN cellB colN colB
  rw [hlen]
  by_cases h0 : c = 0
  · subst h0
    rw [if_pos (by simp), if_neg (by omega)]
    exact ⟨rfl, rfl⟩
  · have hne : ¬ (l.drop s).take c = [] := fun e => by rw [e] at hlen; simp at hlen; omega
    rw [if_neg hne, if_pos (by omega), g (c - 1) (by omega), g 0 (by omega)]
    refine ⟨by congr 1; omega, ?_⟩
    by_cases h1 : c = 1
    · subst h1
      rfl
    · have h2 : c = 2 := by omega
      subst h2
      rw [Nat.add_zero]
      by_cases hz : l.getD s 0 = 0
      · rw [hz]
        rfl
      · rw [decide_eq_false hz, decide_eq_true hz]
        rfl
theorem cols3 (l : List Int) (c0 c1 c2 : Nat) : colsR [c0, c1, c2] l = if colB l 0 c0 = true ∧ colB l c0 c1 = true ∧ colB l (c0 + c1) c2 = true then some [colN l 0 c0, colN l c0 c1, colN l (c0 + c1) c2] else none := by
  have hb : ∀ s c, colB l s c = true ↔ ¬ (c = 2 ∧ ¬ l.getD s 0 = 0) := fun s c => by
    unfold colB
    by_cases hc : c = 2 <;> by_cases hz : l.getD s 0 = 0 <;> simp only [hc, hz, decide_true, decide_false, Bool.and_true, Bool.and_false, Bool.true_and, Bool.false_and, Bool.not_true, Bool.not_false, not_true_eq_false, not_false_eq_true, and_true, and_false, true_and, false_and] <;> simp
  have h0 := colsR_step (cs := [c0, c1, c2]) (l := l) (i := 0) (by simp) 0
  have h1 := colsR_step (cs := [c0, c1, c2]) (l := l) (i := 1) (by simp) c0
  have h2 := colsR_step (cs := [c0, c1, c2]) (l := l) (i := 2) (by simp) (c0 + c1)
  have h0 : colsR [c0, c1, c2] l = if c0 = 2 ∧ ¬ l.getD 0 0 = 0 then none else (colsR [c1, c2] (l.drop (0 + c0))).map (colN l 0 c0 :: ·) := h0
  have h1 : colsR [c1, c2] (l.drop c0) = if c1 = 2 ∧ ¬ l.getD c0 0 = 0 then none else (colsR [c2] (l.drop (c0 + c1))).map (colN l c0 c1 :: ·) := h1
  have h2 : colsR [c2] (l.drop (c0 + c1)) = if c2 = 2 ∧ ¬ l.getD (c0 + c1) 0 = 0 then none else (some []).map (colN l (c0 + c1) c2 :: ·) := h2
  rw [h0, Nat.zero_add, h1, h2]
  simp only [hb]
  generalize colN l 0 c0 = n0
  generalize colN l c0 c1 = n1
  generalize colN l (c0 + c1) c2 = n2
  by_cases q0 : c0 = 2 ∧ ¬ l.getD 0 0 = 0
  · rw [if_pos q0, if_neg (fun q => q.1 q0)]
  · rw [if_neg q0]
    by_cases q1 : c1 = 2 ∧ ¬ l.getD c0 0 = 0
    · rw [if_pos q1, if_neg (fun q => q.2.1 q1)]
      rfl
    · rw [if_neg q1]
      by_cases q2 : c2 = 2 ∧ ¬ l.getD (c0 + c1) 0 = 0
      · rw [if_pos q2, if_neg (fun q => q.2.2 q2)]
        rfl
      · rw [if_neg q2, if_pos ⟨q0, q1, q2⟩]
        rfl
section
variable {H : AHeap} {K : AV → AHeap → Prop}
theorem rrows_a {v : List UInt8} {c0 c1 c2 : Nat} (hv : v.length ≤ 100000) (h00 : 0 < c0) (hc0 : c0 ≤ 2) (hc1 : c1 ≤ 2) (hc2 : c2 ≤ 2) (h : ∀ k, K (.tup [slA k 3 ((rowsS v [c0, c1, c2]).1.map row3V), .int .i64 (rowsS v [c0, c1, c2]).2]) H) :
    (ACalls Tryz.prog) 78 [.str (B v), .agg [.int .i64 (c0 : Int), .int .i64 (c1 : Int), .int .i64 (c2 : Int)]] H K := by
  refine acalls_go mo t78 (fun hs hu => ?_)
  have hsum : [c0, c1, c2].sum = c0 + c1 + c2 := by simp; omega
  unfold rowsS at h
  rw [hsum] at h
  obtain ⟨w, hw⟩ : ∃ w, c0 + c1 + c2 = w := ⟨_, rfl⟩
  rw [hw] at h
  have hdec : v.length % (4 * w) = 0 ↔ v.length % 4 = 0 ∧ (v.length / 4) % w = 0 := by
    constructor
    · intro e
      obtain ⟨q, hq⟩ := Nat.dvd_of_mod_eq_zero e
      rw [hq, Nat.mul_assoc]
      exact ⟨Nat.mul_mod_right _ _, by rw [Nat.mul_div_cancel_left _ (by omega)]; exact Nat.mul_mod_right _ _⟩
    · rintro ⟨e1, e2⟩
      obtain ⟨q, hq⟩ := Nat.dvd_of_mod_eq_zero e1
      rw [hq, Nat.mul_div_cancel_left _ (by omega)] at e2
      obtain ⟨r, hr⟩ := Nat.dvd_of_mod_eq_zero e2
      rw [hq, hr, ← Nat.mul_assoc]
      exact Nat.mul_mod_right _ _
  have w1 : IntKind.wrap .i64 ((c0 : Int) + (c1 : Int)) = ((c0 + c1 : Nat) : Int) := by rw [wi64 (by omega) (by omega)]; omega
  have w2 : IntKind.wrap .i64 (((c0 + c1 : Nat) : Int) + (c2 : Int)) = (w : Int) := by rw [wi64 (by omega) (by omega)]; omega
  have w3 : IntKind.wrap .i64 (4 * (w : Int)) = ((4 * w : Nat) : Int) := by rw [wi64 (by omega) (by omega)]; omega
  simp only [c78, go_sem, Nat.reduceLeDiff, Nat.reduceAdd, Nat.reduceSub, Nat.reduceMul, Nat.reduceLT, Int.reduceLT, Int.reduceLE, Int.reduceAdd, Int.reduceSub, Int.reduceMul, Int.reduceToNat, Int.reduceNeg, Int.reduceEq, Nat.reducePow, Int.reducePow, Nat.reduceEqDiff, decide_true, decide_false, reduceIte, reduceCtorEq, Int.reduceBEq, Int.reduceBNe, bne_self_eq_false, Int.cast_ofNat_Int, Bool.not_true, Bool.not_false, IntKind.bits]
  by_cases hm : v.length % (4 * w) = 0
  · obtain ⟨d1, d2⟩ := hdec.1 hm
    rw [if_pos ⟨d1, by omega, d2⟩] at h
    have hnw : v.length / 4 / w * w = (words (v.length / 4) v).length := by
      have := Nat.div_add_mod (v.length / 4) w
      rw [d2, Nat.add_zero, Nat.mul_comm] at this
      rw [words_len, this]
    have hvl : v.length = 4 * (words (v.length / 4) v).length := by rw [words_len]; omega
    have hslice := fun (a c : Nat) => words_slice (v := v) (a := a) (c := c)
    generalize v.length / 4 / w = n at *
    generalize words (v.length / 4) v = all at *
    have hrows : ∀ k, K (.tup [slA k 3 (((rowsR [c0, c1, c2] w n all).getD []).map row3V), .int .i64 (if (rowsR [c0, c1, c2] w n all).isSome = true then 0 else 7)]) H := fun k => by
      have := h k
      cases hr : rowsR [c0, c1, c2] w n all with
      | none => rw [hr] at this; exact this
      | some l => rw [hr] at this; exact this
    clear h hdec d1 d2
    refine stp (And.intro w1 (And.intro w2 (And.intro w3 hm))) ?_
    rw [← hp_nil (H := hp H _)]
    refine go_loopS mono (σ := AHeap × AV × List (List Int) × Nat) (fun z => [(7, z.2.1), (8, .int .i64 ((z.2.2.2 * (4 * w) : Nat) : Int))]) (fun z => hp z.1 []) (fun z => SlAt (H.next + 1) z.1 78 3 z.2.1 (z.2.2.1.map row3V) ∧ (Past H z.1 ∧ H.next + 1 ≤ z.1.next) ∧ z.1.get (H.next + 0) = some (.row 78 0 [.int .i64 (c0 : Int), .int .i64 (c1 : Int), .int .i64 (c2 : Int)]) ∧ z.2.2.2 ≤ n ∧ (z.2.2.1.length = z.2.2.2 ∧ ∀ r ∈ z.2.2.1, r.length = 3) ∧ rowsR [c0, c1, c2] w n all = (rowsR [c0, c1, c2] w (n - z.2.2.2) (all.drop (z.2.2.2 * w))).map (z.2.2.1 ++ ·)) (fun z => n - z.2.2.2) (hp H [.row 78 0 [.int .i64 (c0 : Int), .int .i64 (c1 : Int), .int .i64 (c2 : Int)]], .nils, [], 0) ?_ rfl ⟨slat_nil, ⟨past_hp past_refl _, Nat.le_refl _⟩, hp_get _ _ 0, Nat.zero_le _, ⟨rfl, by simp⟩, by simp⟩ (fun z hz J hJ => ?_)
    · rw [Nat.zero_mul]
      exact fgt
    obtain ⟨G, v2, out, m⟩ := z
    obtain ⟨hv2, ⟨hG, hGn⟩, hg0, hmn, ⟨hol, ho3⟩, hI⟩ := hz
    simp only at hv2 hG hGn hg0 hmn hol ho3 hI
    have hl0 := G.lt hg0
    simp only [blurR_nil, blurR_some, blurR_none, blurC_region, blurC_regionN, blurC_fregion, blurT_nil, blurT_cons, blurC_seq, blurC_both, blurC_cond, blurC_block, blurC_loop, blurC_skip, blurC_exit, blurC_ret, tellS_nil, tellS_cons, List.set_cons_zero, List.set_cons_succ, tops_zero, tops_succ]
    have h4w : 0 < 4 * w := by omega
    have hvn : v.length = n * (4 * w) := by rw [hvl, ← hnw, Nat.mul_left_comm]
    by_cases e1 : m < n
    · have hmw := Nat.mul_le_mul_right (4 * w) (show m + 1 ≤ n by omega)
      rw [Nat.succ_mul] at hmw
      have hmb : m * (4 * w) < v.length := by omega
      have hmb2 : m * (4 * w) = 4 * (m * w) := Nat.mul_left_comm _ _ _
      obtain ⟨q, hq⟩ : ∃ q, n - m = q + 1 := ⟨n - m - 1, by omega⟩
      have hq2 : n - (m + 1) = q := by omega
      rw [hq, rowsR, List.drop_drop] at hI
      have hJ2 := fun (G2 : AHeap) (v3 : AV) (o2 : List (List Int)) p1 p2 p3 p4 p5 a' => hJ (G2, v3, o2, m + 1) a' ⟨p1, p2, p3, e1, p4, p5⟩ (by show n - (m + 1) < n - m; omega)
      clear hJ
      have s1 : (m + 1) * (4 * w) = 4 * (m * w) + 4 * w := by rw [Nat.succ_mul, hmb2]
      have s2 : (m + 1) * w = m * w + w := Nat.succ_mul _ _
      simp only [hq2, s1, s2] at hJ2
      clear s1 s2
      have hsl := fun (s c : Nat) (hc : c ≤ 2) (hle : s + c ≤ w) => hslice (m * w + s) c (by omega)
      have hlen : w ≤ (all.drop (m * w)).length := by
        rw [List.length_drop]
        have := hvl
        omega
      have hcc := cols3 (all.drop (m * w)) c0 c1 c2
      have hcell := fun (s c : Nat) (hc : c ≤ 2) (hle : s + c ≤ w) => cell_col (l := all.drop (m * w)) (s := s) (c := c) hc (by omega)
      rw [hcc] at hI
      generalize hL : all.drop (m * w) = L at *
      refine stp (And.intro hmb hg0) ?_
      rw [hmb2] at hmb hmw ⊢
      generalize m * w = a at *
      have v1 : IntKind.wrap .i64 (4 * (c0 : Int)) = ((4 * c0 : Nat) : Int) := by rw [wi64 (by omega) (by omega)]; omega
      have v2' : IntKind.wrap .i64 (4 * (c1 : Int)) = ((4 * c1 : Nat) : Int) := by rw [wi64 (by omega) (by omega)]; omega
      have v3' : IntKind.wrap .i64 (4 * (c2 : Int)) = ((4 * c2 : Nat) : Int) := by rw [wi64 (by omega) (by omega)]; omega
      have hv' : ∀ (s c o : Nat), c ≤ 2 → s + c ≤ w → o = 4 * (a + s) → cellN (allW ((v.take (o + 4 * c)).drop o)) = colN L s c ∧ cellB (allW ((v.take (o + 4 * c)).drop o)) = colB L s c := fun s c o h1 h2 h3 => by
        rw [h3, hsl s c h1 h2, show all.drop (a + s) = L.drop s by rw [← hL, List.drop_drop]]
        exact hcell s c h1 h2
      obtain ⟨x0, y0⟩ := hv' 0 c0 (4 * a) hc0 (by omega) (by omega)
      obtain ⟨x1, y1⟩ := hv' c0 c1 (4 * a + 4 * c0) hc1 (by omega) (by omega)
      obtain ⟨x2, y2⟩ := hv' (c0 + c1) c2 (4 * a + 4 * c0 + 4 * c1) hc2 (by omega) (by omega)
      have l0 : ((v.take (4 * a + 4 * c0)).drop (4 * a)).length ≤ 100000 := by rw [List.length_drop, List.length_take]; omega
      have l1 : ((v.take (4 * a + 4 * c0 + 4 * c1)).drop (4 * a + 4 * c0)).length ≤ 100000 := by rw [List.length_drop, List.length_take]; omega
      have l2 : ((v.take (4 * a + 4 * c0 + 4 * c1 + 4 * c2)).drop (4 * a + 4 * c0 + 4 * c1)).length ≤ 100000 := by rw [List.length_drop, List.length_take]; omega
      clear hv' hsl hcell hcc
      have hbad : ¬ (colB L 0 c0 = true ∧ colB L c0 c1 = true ∧ colB L (c0 + c1) c2 = true) → K (.tup [.nils, .int .i64 7]) H := fun e => by
        rw [if_neg e] at hI
        have hx := hrows 0
        rw [hI] at hx
        exact hx
      have hPG : ∀ l : List AObj, Past H (hp G l) := fun l => past_hp hG l
      refine go_rounds mono 4 ?_
      simp only [rnds_succ, go_sem, Nat.reduceLeDiff, Nat.reduceAdd, Nat.reduceSub, Nat.reduceMul, Nat.reduceLT, Int.reduceLT, Int.reduceLE, Int.reduceAdd, Int.reduceSub, Int.reduceMul, Int.reduceToNat, Int.reduceNeg, Int.reduceEq, Nat.reducePow, Int.reducePow, Nat.reduceEqDiff, decide_true, decide_false, reduceIte, reduceCtorEq, Int.reduceBEq, Int.reduceBNe, bne_self_eq_false, Int.cast_ofNat_Int, Bool.not_true, Bool.not_false, IntKind.bits]
      refine stp (And.intro hg0 v1) ?_
      refine cell_a l0 ?_
      rw [x0, y0]
      cases b0 : colB L 0 c0 with
      | false =>
        have hx := hbad (fun e => by rw [b0] at e; cases e.1)
        refine stp0 ?_
        exact aret_past (hPG _) hs (by simp only [u_top, u_bool, u_int, u_str, u_nilp, u_nils, u_nilf, u_nilm, u_nili, u_emp, u_byteV, u_ptr, u_wr, u_wc, u_agg, u_tup, u_rd, u_imm, u_func, u_nil, u_cons, u_app, uc_nil, uc_cons, uc_app, u_bytes, uc_bytes, u_ints, uc_ints, cells_bool, cells_int, cells_str, cells_agg, cells_ptr, cells_nils, cells_imm, cells_wr, cells_wc, cells_nilp, cells_nilf, cells_nilm, cells_rd, cells_emp, cells_byteV, cells_func, and_self, and_true, true_and, u_slA, uc_strs, cells_slA, strV_is]) hx
      | true =>
        refine stp (And.intro hg0 v1) ?_
        rw [rnds_succ]
        refine stp (And.intro hg0 v2') ?_
        refine cell_a l1 ?_
        rw [x1, y1]
        cases b1 : colB L c0 c1 with
        | false =>
          have hx := hbad (fun e => by rw [b1] at e; cases e.2.1)
          refine stp0 ?_
          exact aret_past (hPG _) hs (by simp only [u_top, u_bool, u_int, u_str, u_nilp, u_nils, u_nilf, u_nilm, u_nili, u_emp, u_byteV, u_ptr, u_wr, u_wc, u_agg, u_tup, u_rd, u_imm, u_func, u_nil, u_cons, u_app, uc_nil, uc_cons, uc_app, u_bytes, uc_bytes, u_ints, uc_ints, cells_bool, cells_int, cells_str, cells_agg, cells_ptr, cells_nils, cells_imm, cells_wr, cells_wc, cells_nilp, cells_nilf, cells_nilm, cells_rd, cells_emp, cells_byteV, cells_func, and_self, and_true, true_and, u_slA, uc_strs, cells_slA, strV_is]) hx
        | true =>
          refine stp (And.intro hg0 v2') ?_
          rw [rnds_succ]
          refine stp (And.intro hg0 v3') ?_
          refine cell_a l2 ?_
          rw [x2, y2]
          cases b2 : colB L (c0 + c1) c2 with
          | false =>
            have hx := hbad (fun e => by rw [b2] at e; cases e.2.2)
            refine stp0 ?_
            exact aret_past (hPG _) hs (by simp only [u_top, u_bool, u_int, u_str, u_nilp, u_nils, u_nilf, u_nilm, u_nili, u_emp, u_byteV, u_ptr, u_wr, u_wc, u_agg, u_tup, u_rd, u_imm, u_func, u_nil, u_cons, u_app, uc_nil, uc_cons, uc_app, u_bytes, uc_bytes, u_ints, uc_ints, cells_bool, cells_int, cells_str, cells_agg, cells_ptr, cells_nils, cells_imm, cells_wr, cells_wc, cells_nilp, cells_nilf, cells_nilm, cells_rd, cells_emp, cells_byteV, cells_func, and_self, and_true, true_and, u_slA, uc_strs, cells_slA, strV_is]) hx
          | true =>
            rw [if_pos ⟨b0, b1, b2⟩] at hI
            generalize colN L 0 c0 = n0 at *
            generalize colN L c0 c1 = n1 at *
            generalize colN L (c0 + c1) c2 = n2 at *
            obtain ⟨v3, G3, q1, q2, q3⟩ := slat_app (b := 24) (ys := [row3V [n0, n1, n2]]) (slat_hp hv2 [.row 78 0 [.int .i64 n0, .int .i64 n1, .int .i64 n2]]) (by rw [hp_next]; omega) (row3_len ho3) (row3_one [[n0, n1, n2]]) (by
              have hm1 : m * 1 ≤ m * (4 * w) := Nat.mul_le_mul_left _ (by omega)
              simp only [List.length_map, List.length_cons, List.length_nil]
              omega)
            have q1 : aapp 78 3 24 (hp G [.row 78 0 [.int .i64 n0, .int .i64 n1, .int .i64 n2]]) v2 (.imm 3 [.agg [.int .i64 n0, .int .i64 n1, .int .i64 n2]]) = some (v3, hp G3 []) := q1
            refine stp (And.intro hg0 v3') ?_
            rw [rnds_succ]
            refine stp q1 ?_
            refine hJ2 G3 v3 (out ++ [[n0, n1, n2]]) (by rw [List.map_append]; exact q2) ⟨beside_past q3 (by omega) (hPG _), Nat.le_trans (by rw [hp_next]; omega) q3.next⟩ (q3.other _ _ ((hp_old hl0).trans hg0) (slat_nid hv2 (by omega))) ⟨by simp [hol], fun r hr => ?_⟩ ?_ _ ?_
            · rcases List.mem_append.1 hr with z | z
              · exact ho3 r z
              · rw [List.mem_singleton] at z
                rw [z]
                rfl
            · rw [hI]
              cases rowsR [c0, c1, c2] w q (all.drop (a + w)) with
              | none => rfl
              | some rs => simp
            · exact fgt
    · have hmn2 : m = n := by omega
      subst hmn2
      rw [Nat.sub_self, rowsR] at hI
      have hI : rowsR [c0, c1, c2] w m all = some out := by rw [hI]; simp
      rw [hI] at hrows
      have hmb : ¬ m * (4 * w) < v.length := by omega
      obtain ⟨G5, k5, x1, x2⟩ := slat_shut hv2 (row3_len ho3)
      refine stp hmb ?_
      rw [hp_nil]
      refine aret_shut (.tup _ _ [] [_] _ _ x1) (x2 H (Nat.le_succ _) hG) hs ?_ (hrows k5)
      show AV.under H.next (.tup [slA k5 3 (out.map row3V), .int .i64 0])
      simp only [u_tup, u_cons, u_nil, u_int, u_slA, and_true]
      exact row3_u _ _
  · have hx := h 0
    rw [if_neg (fun q => hm (hdec.2 ⟨q.1, q.2.2⟩))] at hx
    have hx : K (.tup [.nils, .int .i64 6]) H := hx
    refine stp (And.intro w1 (And.intro w2 (And.intro w3 hm))) ?_
    exact aret_u hs (hx)
end
theorem cols_pad0 : ∀ (cs : List Nat) (l : List Int), colsR (cs ++ [0]) l = (colsR cs l).map (· ++ [0])
  | [], l => by
    rw [List.nil_append]
    show (if (0 : Nat) = 2 ∧ ¬ l.getD 0 0 = 0 then none else ((some []).map ((if 0 < (0 : Nat) then l.getD (0 - 1) 0 else 0) :: ·))) = _
    rw [if_neg (fun q => by cases q.1), if_neg (by omega)]
    rfl
  | c :: cs, l => by
    rw [List.cons_append, colsR, colsR, cols_pad0 cs]
    by_cases q : c = 2 ∧ ¬ l.getD 0 0 = 0
    · rw [if_pos q, if_pos q]
      rfl
    · rw [if_neg q, if_neg q, Option.map_map, Option.map_map]
      rfl
theorem cols_pad (a s : Nat) (l : List Int) : colsR [a, s, 0] l = (colsR [a, s] l).map (· ++ [0]) := cols_pad0 [a, s] l
theorem rows_pad (a s : Nat) : ∀ (k : Nat) (l : List Int), rowsR [a, s, 0] (a + s) k l = (rowsR [a, s] (a + s) k l).map (List.map (· ++ [0]))
  | 0, l => rfl
  | k + 1, l => by
    rw [rowsR, rowsR, cols_pad, rows_pad a s k]
    cases colsR [a, s] l with
    | none => rfl
    | some r =>
      cases rowsR [a, s] (a + s) k (l.drop (a + s)) with
      | none => rfl
      | some rs => rfl
theorem rowsS_pad (v : List UInt8) (a s : Nat) : rowsS v [a, s, 0] = ((rowsS v [a, s]).1.map (· ++ [0]), (rowsS v [a, s]).2) := by
  have e1 : [a, s, 0].sum = a + s := by simp
  have e2 : [a, s].sum = a + s := by simp
  unfold rowsS
  rw [e1, e2]
  split
  · rw [rows_pad]
    cases rowsR [a, s] (a + s) (v.length / 4 / (a + s)) (words (v.length / 4) v) with
    | none => rfl
    | some l => rfl
  · rfl
theorem spR_pad {r : List Int} (h : r.length = 2) : spR (r ++ [0]) = spR r := by
  match r, h with
  | [x, y], _ => rfl
theorem spR_pads {L : List (List Int)} (h : ∀ r ∈ L, r.length = 2) : (L.map (· ++ [0])).map spR = L.map spR := by
  rw [List.map_map]
  exact List.map_congr_left (fun r hr => spR_pad (h r hr))
/-- A node's family, where there is such a node. -/
theorem fam_cases (t : Tr) (p : List UInt8) : (findT t p = none ∧ famO t p = none) ∨ (∃ k, findT t p = some k ∧ p = [47] ∧ famO t p = none) ∨
    (∃ k ns, findT t p = some k ∧ partsP p = some ns ∧ ns ≠ [] ∧ ¬ p = [47] ∧ famO t p = some (k, (findT t (joinPs (ns.take (ns.length - 1)))).getD tr0)) := by
  unfold famO
  cases hf : findT t p with
  | none =>
    refine .inl ⟨rfl, ?_⟩
    cases partsP p <;> rfl
  | some k =>
    cases hp : partsP p with
    | none => unfold findT at hf; rw [hp] at hf; cases hf
    | some ns =>
      have hj := parts_join hp
      have hr := joinPs_root (parts_good hp)
      by_cases h0 : ns = []
      · exact .inr (.inl ⟨k, rfl, by rw [← hj, h0]; rfl, by simp only [h0, if_true]⟩)
      · refine .inr (.inr ⟨k, ns, rfl, rfl, h0, fun e => h0 (hr.1 (by rw [hj]; exact e)), ?_⟩)
        simp only [h0, if_false]
section
variable {H : AHeap} {K : AV → AHeap → Prop}
theorem parent_a {p : List UInt8} {ns : List (List UInt8)} (hp_ : p.length ≤ 5000) (hpp : partsP p = some ns) (h0 : ns ≠ []) (h : K (.str (B (joinPs (ns.take (ns.length - 1))))) H) : (ACalls Tryz.prog) 77 [.str (B p)] H K := by
  refine acalls_go mo t77 (fun hs hu => ?_)
  have hl := List.length_pos_iff.2 h0
  have h8 := partsP_le hpp
  simp only [c77, go_sem, Nat.reduceLeDiff, Nat.reduceAdd, Nat.reduceSub, Nat.reduceMul, Nat.reduceLT, Int.reduceLT, Int.reduceLE, Int.reduceAdd, Int.reduceSub, Int.reduceMul, Int.reduceToNat, Int.reduceNeg, Int.reduceEq, Nat.reducePow, Int.reducePow, Nat.reduceEqDiff, decide_true, decide_false, reduceIte, reduceCtorEq, Int.reduceBEq, Int.reduceBNe, bne_self_eq_false, Int.cast_ofNat_Int, Bool.not_true, Bool.not_false, IntKind.bits]
  refine rParts_a (by omega) (fun k => ?_)
  rw [hpp, partsV_s]
  obtain ⟨j1, j2, j3⟩ := joins_le hpp hp_ (ns.length - 1)
  obtain ⟨k2, e2⟩ := slA_cut k 1 (ns.map strV) (i := ns.length - 1) (by rw [List.length_map]; omega)
  rw [← List.map_take] at e2
  simp only [asliceSl, abound] at e2
  have hn0 : ¬ ns.length = 0 := by omega
  refine stp (And.intro e2 hn0) ?_
  refine rJoin_a j1 j2 ?_
  refine stp0 ?_
  exact aret_u hs (h)
theorem rregs_a {n : Nat} {t : Tr} {p : List UInt8} (hn : n ≤ 100000) (hm : TrM n t) (hp_ : p.length ≤ 5000) (h : ∀ k, K (.tup [slA k 2 ((regsS t p).1.map spnV), .int .i64 (regsS t p).2]) H) : (ACalls Tryz.prog) 35 [t.V, .str (B p)] H K := by
  refine acalls_go mo t35 (fun hs hu => ?_)
  have ho := trm_ok (by omega) hm
  have hVi := Tr.V_is t
  have e0 : tr0.V = .agg [.str (B []), .nils, .nils] := tr0_V
  obtain ⟨m1, m2⟩ := famO_m (p := p) hm
  unfold regsS kReg at h
  simp only [c35, Tr.V_is, go_sem, Nat.reduceLeDiff, Nat.reduceAdd, Nat.reduceSub, Nat.reduceMul, Nat.reduceLT, Int.reduceLT, Int.reduceLE, Int.reduceAdd, Int.reduceSub, Int.reduceMul, Int.reduceToNat, Int.reduceNeg, Int.reduceEq, Nat.reducePow, Int.reducePow, Nat.reduceEqDiff, decide_true, decide_false, reduceIte, reduceCtorEq, Int.reduceBEq, Int.reduceBNe, bne_self_eq_false, Int.cast_ofNat_Int, Bool.not_true, Bool.not_false, IntKind.bits]
  rw [← hVi]
  refine find_a ho (by omega) ?_
  rcases fam_cases t p with ⟨hf, hfo⟩ | ⟨kd, hf, hpr, hfo⟩ | ⟨kd, ns, hf, hpp, h0, hpr, hfo⟩
  · rw [hfo] at h
    have hx : K (.tup [.nils, .int .i64 8]) H := h 0
    rw [hf, foundV_n]
    refine stp0 ?_
    rw [← e0]
    refine rValue_a (trm_ok (n := n) (by omega) (trm_0 _)) ?_
    rw [valV_is, e0]
    refine stp0 ?_
    exact aret_u hs (hx)
  · rw [hfo] at h
    have hx : K (.tup [.nils, .int .i64 8]) H := h 0
    have hko := trm_ok (by omega) (findT_m hm hf)
    have hVk := Tr.V_is kd
    rw [hf, foundV_s]
    refine stp0 ?_
    rw [← hVk]
    refine rValue_a hko ?_
    rw [valV_is, hVk]
    refine stp hpr ?_
    exact aret_u hs (hx)
  · rw [hfo] at h m1 m2
    have m1 : TrM n kd := m1
    have hVk := Tr.V_is kd
    simp only at h
    rw [hf, foundV_s]
    refine stp0 ?_
    rw [← hVk]
    refine rValue_a (trm_ok (by omega) m1) ?_
    rw [hVk]
    cases hv : valT kd [114, 101, 103] with
    | none =>
      rw [hv] at h
      have hx : K (.tup [.nils, .int .i64 8]) H := h 0
      rw [show valV none = .tup [.str (B []), .bool false] from rfl]
      refine stp hpr ?_
      exact aret_u hs (hx)
    | some v =>
      have hvl := valT_m m1 hv
      rw [hv] at h
      simp only at h
      rw [show valV (some v) = .tup [.str (B v), .bool true] from rfl]
      refine stp hpr ?_
      refine ⟨_, parent_a hp_ hpp h0 ⟨rfl, rfl⟩, ?_⟩
      refine stp0 ?_
      rw [← hVi]
      obtain ⟨j1, j2, j3⟩ := joins_le hpp hp_ (ns.length - 1)
      refine find_a ho (by omega) ?_
      rw [foundV_is]
      have m2 : TrM n ((findT t (joinPs (ns.take (ns.length - 1)))).getD tr0) := m2
      generalize findT t (joinPs (ns.take (ns.length - 1))) = fz at *
      generalize fz.getD tr0 = up at *
      have hVu := Tr.V_is up
      rw [hVi]
      refine stp0 ?_
      rw [← hVu]
      refine rcells_a (trm_ok (by omega) m2) (fun nm w hw => valT_m m2 hw) ?_
      rw [hVu]
      cases hc : cellsO up with
      | none =>
        rw [hc] at h
        have hx : K (.tup [.nils, .int .i64 6]) H := h 0
        rw [show cellsV none = .tup [.int .i64 0, .int .i64 0, .bool false] from rfl]
        refine stp0 ?_
        exact aret_u hs (hx)
      | some pr =>
        obtain ⟨a, s⟩ := pr
        obtain ⟨c1, c2, c3⟩ := cellsO_le hc
        rw [hc] at h
        simp only at h
        rw [show cellsV (some (a, s)) = .tup [.int .i64 (a : Int), .int .i64 (s : Int), .bool true] from rfl]
        refine stp0 ?_
        refine rrows_a (c2 := 0) (by omega) (by omega) (by omega) (by omega) (by omega) (fun k => ?_)
        obtain ⟨r1, r2⟩ := rowsS_32 v [a, s]
        have hpd := rowsS_pad v a s
        have hpl : ∀ r ∈ (rowsS v [a, s, 0]).1, r.length = 3 := fun r hr => ((rowsS_32 v [a, s, 0]).2 r hr).1
        have hps : (rowsS v [a, s, 0]).1.map spR = (rowsS v [a, s]).1.map spR := by
          rw [hpd]
          exact spR_pads (fun r hr => (r2 r hr).1)
        have hp2 : (rowsS v [a, s, 0]).2 = (rowsS v [a, s]).2 := by rw [hpd]
        have hp3 : (rowsS v [a, s, 0]).1.length ≤ 100000 := by
          rw [hpd, List.length_map]
          omega
        have hnil : ¬ (rowsS v [a, s]).2 = 0 → (rowsS v [a, s]).1 = [] := fun he => by
          unfold rowsS at he ⊢
          split
          · rename_i hc2
            rw [if_pos hc2] at he
            cases hr : rowsR [a, s] [a, s].sum (v.length / 4 / [a, s].sum) (words (v.length / 4) v) with
            | none => rfl
            | some l => rw [hr] at he; exact absurd rfl he
          · rfl
        clear hpd
        rw [hp2]
        generalize rowsS v [a, s] = R at *
        generalize rowsS v [a, s, 0] = R3 at *
        by_cases he : R.2 = 0
        · refine stp he ?_
          refine go_loopS mono (σ := AHeap × AV × Nat) (fun z => [(17, z.2.1), (18, .int .i64 (z.2.2 : Int))]) (fun z => hp z.1 []) (fun z => SlAt H.next z.1 93 2 z.2.1 (((R3.1.take z.2.2).map spR).map spnV) ∧ Past H z.1 ∧ z.2.2 ≤ R3.1.length) (fun z => R3.1.length - z.2.2) (hp H [trRow t, trRow kd, trRow up], .nils, 0) ?_ (by rw [hp_nil]; simp only [trRow_is]) ⟨slat_nil, past_hp past_refl _, Nat.zero_le _⟩ (fun z hz J hJ => ?_)
          · exact fgt
          obtain ⟨G, v2, i⟩ := z
          obtain ⟨hv2, hG, hil⟩ := hz
          simp only at hv2 hG hil
          simp only [blurR_nil, blurR_some, blurR_none, blurC_region, blurC_regionN, blurC_fregion, blurT_nil, blurT_cons, blurC_seq, blurC_both, blurC_cond, blurC_block, blurC_loop, blurC_skip, blurC_exit, blurC_ret, tellS_nil, tellS_cons, List.set_cons_zero, List.set_cons_succ, tops_zero, tops_succ]
          by_cases h1 : i < R3.1.length
          · have ha := row3_at h1
            have hst := map_stepC spR (d := []) h1
            have q1 := hpl _ (memD (d := []) h1)
            have hJ2 := fun (G2 : AHeap) (v3 : AV) p1 p2 a' => hJ (G2, v3, i + 1) a' ⟨p1, p2, h1⟩ (by show R3.1.length - (i + 1) < R3.1.length - i; omega)
            clear hJ
            simp only [hst] at hJ2
            have hlt : ((R3.1.take i).map spR).length ≤ R3.1.length := by rw [List.length_map, List.length_take]; omega
            generalize R3.1.getD i [] = r at *
            generalize (R3.1.take i).map spR = ys at *
            have g0 := rowG (r := r) (i := 0) (by omega)
            have g1 := rowG (r := r) (i := 1) (by omega)
            obtain ⟨x0, x1, x2, rfl⟩ : ∃ x0 x1 x2, r = [x0, x1, x2] := by
              match r, q1 with
              | [a, b, c], _ => exact ⟨a, b, c, rfl⟩
            obtain ⟨v3, G3, w1, w2, w3⟩ := slat_app (b := 16) (ys := [spR [x0, x1, x2]].map spnV) (slat_hp hv2 []) (by rw [hp_nil]; exact hG.next) (spn_len _) (spn_one _) (by simp only [List.length_map, List.length_cons, List.length_nil]; omega)
            rw [← List.map_append] at w2
            have w1 : aapp 93 2 16 (hp G []) v2 (.imm 2 [.agg [.int .i64 x0, .int .i64 x1]]) = some (v3, hp G3 []) := w1
            have hrc : (row3V [x0, x1, x2]).cells = [.int .i64 x0, .int .i64 x1, .int .i64 x2] := rfl
            refine stp (And.intro ha (And.intro hrc w1)) ?_
            exact hJ2 G3 v3 w2 (beside_past w3 (Nat.le_refl _) (past_hp hG [])) _ fgt
          · rw [List.take_of_length_le (by omega), hps] at hv2
            obtain ⟨G5, k5, w1, w2⟩ := slat_shut hv2 (spn_len _)
            have hx := h k5
            rw [he] at hx
            have hx : K (.tup [slA k5 2 ((R.1.map spR).map spnV), .int .i64 0]) H := hx
            refine stp0 ?_
            rw [hp_nil]
            refine aret_shut (.tup _ _ [] [_] _ _ w1) (w2 H (Nat.le_refl _) hG) hs ?_ hx
            show AV.under H.next (.tup [slA k5 2 ((R.1.map spR).map spnV), .int .i64 0])
            simp only [u_tup, u_cons, u_nil, u_int, u_slA, and_true]
            exact spn_u _ _
        · rw [hnil he] at h
          have hx := h 0
          have hx : K (.tup [.nils, .int .i64 R.2]) H := hx
          refine stp he ?_
          exact aret_u hs (hx)
end
end Go.Proofs.YtmdgjfadbhenjaaGreatDoor.AL
