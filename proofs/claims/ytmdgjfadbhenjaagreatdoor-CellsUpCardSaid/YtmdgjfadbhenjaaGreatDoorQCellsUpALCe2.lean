/- Cells told: the rows of a value. -/
import Derived.Test.YtmdgjfadbhenjaaGreatDoorQCellsUpALDCe
import Derived.Test.YtmdgjfadbhenjaaGreatDoorQCellsUpALTree1
import Derived.Test.YtmdgjfadbhenjaaGreatDoorQCellsUpALA3
import Derived.Test.YtmdgjfadbhenjaaGreatDoorProg
import Derived.KernelRfl
import Derived.Test.YtmdgjfadbhenjaaGreatDoorQCellsUpALVal1
import Derived.Test.YtmdgjfadbhenjaaGreatDoorQCellsUpALPat2
set_option linter.unusedSimpArgs false
set_option linter.unusedVariables false
set_option maxRecDepth 100000
set_option maxHeartbeats 16000000
namespace Go.Proofs.YtmdgjfadbhenjaaGreatDoor.AL
open Go Go.Proofs
attribute [local go_sem] go_seq go_skip go_region go_regionN go_fregion rgF_some go_cond go_block go_exit go_ret nxt_nil nxt_code nxt_blk nxt_cut leave_nil leave_code leave_cut leave_blk rtn_nil rtn_code rtn_blk rtn_cut cnd_t cnd_f rgn_nil rgY_some rgY_none rgH_some rgP_some retTo_is rgV_func grd_und grd_tt grd_ff grd_tf grd_ft rgn_q rgn_alloc rgn_box rgn_store rgn_lit rgn_litw rgn_litc litCells_nil litCells_cons rgn_app rgn_copy rgn_mk rgn_s2b rgn_call rgn_callv rgn_stop rgn_slice3 aslice3 rgn_slice3l aslice3l rgn_appz rgn_clear rgn_range rgn_next arange acap rgn_put rgn_mkmap rgn_lookup rgn_mapup alookup_nilm alookup_map amapup_map afound_ok afound_no rgn_c rgn_cv qclV_func aloadr rgn_guard post_ret post_normal retY_some ares aresL ares1 AX.ev aput List.getD_cons_zero List.getD_cons_succ List.set_cons_zero List.set_cons_succ List.map_cons List.map_nil aq abin aint astr abeq aconv asame aextract alenS alenL_nils alenL_emp alenL_imm alenL_wr alenL_wc aun apart aload afieldAddr afield aidxSl_wr aidxSl_wc aidxSl_imm aidxPt aidxStr aidxArr abound asliceStr asliceSl asliceArr abest anonil afill astore acells_nils acells_emp acells_imm acells_wr acells_wc acells_str acopy litAll amk as2b anil nilOf aseq aeqs aeqv fits fit1 hp_next hp_push hp_get hp_set List.length_cons List.length_nil List.getElem?_cons_zero List.getElem?_cons_succ List.cons_append List.nil_append List.append_nil List.take_succ_cons List.take_zero List.drop_succ_cons List.drop_zero List.all_cons List.all_nil Option.map_some Option.some.injEq Bool.and_true Bool.true_and Bool.false_eq_true if_true if_false ite_true ite_false Bool.and_self true_and and_true and_self Nat.zero_add Nat.le_refl Int.toNat_natCast beq_self_eq_true eq_self tops_zero tops_succ Int.natCast_nonneg List.take_nil List.drop_nil Option.map_none flat_bool one_bool cells_bool flat_int one_int cells_int flat_str one_str cells_str flat_nilp one_nilp cells_nilp flat_ptr one_ptr cells_ptr flat_nils one_nils cells_nils flat_imm one_imm cells_imm flat_wr one_wr cells_wr flat_wc one_wc cells_wc flat_func one_func cells_func flat_nilf one_nilf cells_nilf flat_map one_map cells_map flat_nilm one_nilm cells_nilm flat_iface one_iface cells_iface flat_nili one_nili cells_nili flat_rd one_rd cells_rd flat_emp one_emp cells_emp flat_byteV one_byteV cells_byteV flat_agg cells_agg one_agg B_size B_list B_ext B_toList B_app List.take_length Int.le_refl
def allW (v : List UInt8) : List Int := if v.length % 4 = 0 then words (v.length / 4) v else []
theorem allW_len (v : List UInt8) : (allW v).length ≤ v.length := by
  unfold allW
  split
  · rw [words_len]; exact Nat.div_le_self _ _
  · exact Nat.zero_le _
theorem fromBigs_all (v : List UInt8) : fromBigs v = .tup [slA 0 1 ((allW v).map (AV.int .i64)), .bool (decide (v.length % 4 = 0))] := by
  unfold fromBigs allW
  by_cases h : v.length % 4 = 0
  · rw [if_pos h, if_pos h, decide_eq_true h]
    congr 1
    congr 1
    unfold immOf
    generalize words (v.length / 4) v = l
    cases l <;> rfl
  · rw [if_neg h, if_neg h, decide_eq_false h]
    rfl
theorem slA_dropC (k sz : Nat) (xs : List AV) {i : Nat} (hi : i ≤ xs.length) : ∃ k', asliceSl sz (slA k sz xs) (some (.int .i64 (i : Int))) none = some (slA k' sz (xs.drop i)) := by
  rcases slA_cases k sz xs with ⟨h, rfl⟩ | ⟨h, rfl⟩ | h
  · have h0 : i = 0 := by simpa using hi
    subst h0
    exact ⟨0, by rw [h]; rfl⟩
  · have h0 : i = 0 := by simpa using hi
    subst h0
    exact ⟨1, by rw [h]; rfl⟩
  · refine ⟨2, ?_⟩
    have : slA 2 sz (xs.drop i) = .imm sz (xs.drop i) := by cases xs.drop i <;> rfl
    rw [h, this]
    simp only [asliceSl, abound]
    rw [if_pos ⟨trivial, by omega, by omega, by omega⟩]
    simp
section
variable {H : AHeap} {K : AV → AHeap → Prop}
theorem rows_a {v : List UInt8} {cs : List Nat} (hv : v.length ≤ 100000) (hcs : cs ≠ []) (hcl : cs.length ≤ 10) (hc2 : ∀ c ∈ cs, c ≤ 2) (h : ∀ k, K (.tup [slA k 1 ((rowsS v cs).1.map rowV), .int .i64 (rowsS v cs).2]) H) :
    (ACalls Tryz.prog) 76 [.str (B v), .imm 1 (cs.map colV)] H K := by
  refine acalls_go mo t76 (fun hs hu => ?_)
  have hw20 := sum_le2 hc2
  have hal := allW_len v
  have hcpos := List.length_pos_iff.2 hcs
  simp only [c76, go_sem, Nat.reduceLeDiff, Nat.reduceAdd, Nat.reduceSub, Nat.reduceMul, Nat.reduceLT, Int.reduceLT, Int.reduceLE, Int.reduceAdd, Int.reduceSub, Int.reduceMul, Int.reduceToNat, Int.reduceNeg, Int.reduceEq, Nat.reducePow, Int.reducePow, Nat.reduceEqDiff, decide_true, decide_false, reduceIte, reduceCtorEq, Int.reduceBEq, Int.reduceBNe, bne_self_eq_false, Int.cast_ofNat_Int, Bool.not_true, Bool.not_false, IntKind.bits]
  refine fromBigs_a hv ?_
  rw [fromBigs_all]
  refine stp0 ?_
  refine go_loopS mono (σ := Nat) (fun i => [(8, .int .i64 ((cs.take i).sum : Nat)), (24, .int .i64 (i : Int))]) (fun i => hp H []) (fun i => i ≤ cs.length) (fun i => cs.length - i) 0 ?_ rfl (Nat.zero_le _) (fun i hi J hJ => ?_)
  · exact fgt
  have hil : i ≤ cs.length := hi
  simp only [blurR_nil, blurR_some, blurR_none, blurC_region, blurC_regionN, blurC_fregion, blurT_nil, blurT_cons, blurC_seq, blurC_both, blurC_cond, blurC_block, blurC_loop, blurC_skip, blurC_exit, blurC_ret, tellS_nil, tellS_cons, List.set_cons_zero, List.set_cons_succ, tops_zero, tops_succ]
  by_cases h1 : i < cs.length
  · have ha := col_at h1
    have hst := sum_step h1
    have hle := sum_take_le cs (i + 1)
    have hJ2 := hJ (i + 1)
    clear hJ
    rw [hst] at hle
    simp only [hst] at hJ2
    refine stp ha ?_
    exact hJ2 _ h1 (by omega) fgt
  · clear hJ
    rw [List.take_of_length_le (by omega)]
    unfold rowsS at h
    by_cases c1 : v.length % 4 = 0
    · have hall : allW v = words (v.length / 4) v := by unfold allW; rw [if_pos c1]
      have hln : (words (v.length / 4) v).length = v.length / 4 := words_len _ _
      rw [hall] at hal ⊢
      rw [decide_eq_true c1]
      by_cases c2 : cs.sum = 0
      · have hx := h 0
        rw [if_neg (fun q => by have := q.2.1; omega)] at hx
        have hx : K (.tup [.nils, .int .i64 6]) H := hx
        refine stp c2 ?_
        exact aret_u hs (hx)
      · by_cases c3 : (v.length / 4) % cs.sum = 0
        · rw [if_pos ⟨c1, by omega, c3⟩] at h
          have hmod : (words (v.length / 4) v).length % cs.sum = 0 := by rw [hln]; exact c3
          have hwp : 0 < cs.sum := by omega
          have hnw : v.length / 4 / cs.sum * cs.sum = (words (v.length / 4) v).length := by
            have := Nat.div_add_mod (v.length / 4) cs.sum
            rw [c3, Nat.add_zero, Nat.mul_comm] at this
            rw [hln, this]
          generalize v.length / 4 / cs.sum = n at *
          generalize words (v.length / 4) v = all at *
          simp (maxSteps := 4000000) (disch := (first | omega | (simp only [set_next, List.length_append, List.length_cons, List.length_nil, List.length_take, List.length_drop, List.length_map, List.length_set, List.length_replicate]; omega) | (simp only [set_next, ne_eq, reduceCtorEq, not_false_eq_true]))) only [show ¬ cs.sum = 0 by omega, hmod, go_sem, Nat.reduceLeDiff, Nat.reduceAdd, Nat.reduceSub, Nat.reduceMul, Nat.reduceLT, Int.reduceLT, Int.reduceLE, Int.reduceAdd, Int.reduceSub, Int.reduceMul, Int.reduceToNat, Int.reduceNeg, Int.reduceEq, Nat.reducePow, Int.reducePow, Nat.reduceEqDiff, decide_true, decide_false, reduceIte, reduceCtorEq, Int.reduceBEq, Int.reduceBNe, bne_self_eq_false, Int.cast_ofNat_Int, Bool.not_true, Bool.not_false, IntKind.bits, w_nat, w_lit, w_add, w_addl, w_ladd, w_sub, w_subl, w_lsub, w_mul, w_mull, w_lmul, t_div, t_divl, t_mod, t_modl, i_lt, i_ltl, i_llt, i_le, i_lel, i_lle, i_eq, i_eql, i_leq, Nat.zero_le, d_beq, d_bne, d_bytes, byte_at, Int.toNat_natCast, toNat_lit, decide_eq_true, decide_eq_false, if_pos, if_neg, slA_len, slA_idx, slA_cells, flat_slA, one_slA, cells_slA, map_mid, strV_is, hp_get1, hp_get2, hp_get3, hp_set1, hp_set2, hp_set3, hp_old, hp_sold, set_got, set_set, set_next, set_other, bytesL, bytes_all, List.length_map, aapp_nils, aapp_wr, List.flatMap_cons, List.flatMap_nil, Nat.mul_one]
          clear hmod c2 c3 hln
          have hrows : ∀ k, K (.tup [slA k 1 (((rowsR cs cs.sum n all).getD []).map rowV), .int .i64 (if (rowsR cs cs.sum n all).isSome = true then 0 else 7)]) H := fun k => by
            have := h k
            cases hr : rowsR cs cs.sum n all with
            | none => rw [hr] at this; exact this
            | some l => rw [hr] at this; exact this
          clear h
          refine go_loopS mono (σ := AHeap × AV × List (List Int) × Nat × Nat) (fun z => [(6, slA z.2.2.2.1 1 ((all.drop (z.2.2.2.2 * cs.sum)).map (AV.int .i64))), (11, z.2.1)]) (fun z => hp z.1 []) (fun z => SlAt H.next z.1 121 1 z.2.1 (z.2.2.1.map rowV) ∧ Past H z.1 ∧ z.2.2.2.2 ≤ n ∧ z.2.2.1.length = z.2.2.2.2 ∧ rowsR cs cs.sum n all = (rowsR cs cs.sum (n - z.2.2.2.2) (all.drop (z.2.2.2.2 * cs.sum))).map (z.2.2.1 ++ ·)) (fun z => n - z.2.2.2.2) (H, .nils, [], 0, 0) ?_ (by rw [hp_nil]) ⟨slat_nil, past_refl, Nat.zero_le _, rfl, by simp⟩ (fun z hz J hJ => ?_)
          · rw [Nat.zero_mul, List.drop_zero]
            exact fgt
          obtain ⟨G, v2, out, kk, m⟩ := z
          obtain ⟨hv2, hG, hmn, hol, hI⟩ := hz
          simp only at hv2 hG hmn hol hI
          simp only [blurR_nil, blurR_some, blurR_none, blurC_region, blurC_regionN, blurC_fregion, blurT_nil, blurT_cons, blurC_seq, blurC_both, blurC_cond, blurC_block, blurC_loop, blurC_skip, blurC_exit, blurC_ret, tellS_nil, tellS_cons, List.set_cons_zero, List.set_cons_succ, tops_zero, tops_succ]
          have hrl : (all.drop (m * cs.sum)).length = (n - m) * cs.sum := by
            rw [List.length_drop, ← hnw, Nat.sub_mul]
          have hdd : ∀ kk2, asliceSl 1 (slA kk 1 ((all.drop (m * cs.sum)).map (AV.int .i64))) (some (.int .i64 (cs.sum : Int))) none = some (slA kk2 1 (((all.drop (m * cs.sum)).map (AV.int .i64)).drop cs.sum)) → asliceSl 1 (slA kk 1 ((all.drop (m * cs.sum)).map (AV.int .i64))) (some (.int .i64 (cs.sum : Int))) none = some (slA kk2 1 ((all.drop ((m + 1) * cs.sum)).map (AV.int .i64))) := fun kk2 e => by
            rw [e, ← List.map_drop, List.drop_drop, Nat.succ_mul]
          by_cases d1 : m < n
          · have hrl2 : cs.sum ≤ (all.drop (m * cs.sum)).length := by
              rw [hrl]
              have := Nat.mul_le_mul_right cs.sum (show 1 ≤ n - m by omega)
              omega
            obtain ⟨kk2, hk2⟩ := slA_dropC kk 1 ((all.drop (m * cs.sum)).map (AV.int .i64)) (i := cs.sum) (by rw [List.length_map]; exact hrl2)
            have hk2 := hdd kk2 hk2
            clear hdd
            obtain ⟨q, hq⟩ : ∃ q, n - m = q + 1 := ⟨n - m - 1, by omega⟩
            have hq2 : n - (m + 1) = q := by omega
            rw [hq, rowsR, List.drop_drop] at hI
            have hJ2 := fun (G2 : AHeap) (v3 : AV) (o2 : List (List Int)) p1 p2 p3 p4 a' => hJ (G2, v3, o2, kk2, m + 1) a' ⟨p1, p2, d1, p3, p4⟩ (by show n - (m + 1) < n - m; omega)
            clear hJ
            simp only [hq2, Nat.succ_mul] at hJ2
            rw [Nat.succ_mul] at hk2
            simp only [asliceSl, abound] at hk2
            clear hrl hq hq2
            have hal2 : (all.drop (m * cs.sum)).length ≤ 100000 := by rw [List.length_drop]; omega
            generalize all.drop (m * cs.sum + cs.sum) = rest at *
            generalize all.drop (m * cs.sum) = l at *
            have hlp : 0 < l.length := by omega
            refine stp hlp ?_
            refine go_loopS mono (σ := AHeap × AV × List Int × Nat) (fun z => [(12, z.2.1), (13, .int .i64 ((cs.take z.2.2.2).sum : Nat)), (53, .int .i64 (z.2.2.2 : Int))]) (fun z => hp z.1 []) (fun z => SlAt G.next z.1 3 1 z.2.1 (z.2.2.1.map (AV.int .i64)) ∧ Past G z.1 ∧ z.2.2.2 ≤ cs.length ∧ z.2.2.1.length = z.2.2.2 ∧ colsR cs l = (colsR (cs.drop z.2.2.2) (l.drop (cs.take z.2.2.2).sum)).map (z.2.2.1 ++ ·)) (fun z => cs.length - z.2.2.2) (G, .nils, [], 0) ?_ rfl ⟨slat_nil, past_refl, Nat.zero_le _, rfl, by simp⟩ (fun z hz J3 hJ3 => ?_)
            · exact fgt
            obtain ⟨G3, v3, r0, jj⟩ := z
            obtain ⟨hv3, hG3, hjl, hrl, hC⟩ := hz
            simp only at hv3 hG3 hjl hrl hC
            simp only [blurR_nil, blurR_some, blurR_none, blurC_region, blurC_regionN, blurC_fregion, blurT_nil, blurT_cons, blurC_seq, blurC_both, blurC_cond, blurC_block, blurC_loop, blurC_skip, blurC_exit, blurC_ret, tellS_nil, tellS_cons, List.set_cons_zero, List.set_cons_succ, tops_zero, tops_succ]
            by_cases e1 : jj < cs.length
            · have ha := col_at e1
              have hst := sum_step e1
              have hle := sum_take_le cs (jj + 1)
              have hc := hc2 _ (memD (d := 0) e1)
              rw [colsR_step e1] at hC
              have hJ4 := fun (G4 : AHeap) (v4 : AV) (r4 : List Int) p1 p2 p3 p4 a' => hJ3 (G4, v4, r4, jj + 1) a' ⟨p1, p2, e1, p3, p4⟩ (by show cs.length - (jj + 1) < cs.length - jj; omega)
              clear hJ3
              rw [hst] at hle
              simp only [hst] at hJ4
              generalize (cs.take jj).sum = at_ at *
              generalize cs.getD jj 0 = c at *
              generalize cs.drop (jj + 1) = cs2 at *
              have happ : ∀ x : Int, ∃ v4 G4, aapp 3 1 8 (hp G3 []) v3 (.imm 1 [.int .i64 x]) = some (v4, hp G4 []) ∧ SlAt G.next G4 3 1 v4 ((r0 ++ [x]).map (AV.int .i64)) ∧ Past G G4 := fun x => by
                obtain ⟨v4, G4, q1, q2, q3⟩ := slat_app (b := 8) (ys := [x].map (AV.int .i64)) (slat_hp hv3 []) (by rw [hp_nil]; exact hG3.next) (intsC_len _) rfl (by simp only [List.length_map, List.length_cons, List.length_nil]; omega)
                rw [← List.map_append] at q2
                exact ⟨v4, G4, q1, q2, beside_past q3 (Nat.le_refl _) (past_hp hG3 [])⟩
              have hstop : (c = 2 ∧ ¬ l.getD at_ 0 = 0) → rowsR cs cs.sum n all = none := fun q => by
                rw [if_pos q] at hC
                rw [hI, hC]
                rfl
              have hgo : ¬ (c = 2 ∧ ¬ l.getD at_ 0 = 0) → colsR cs l = (colsR cs2 (l.drop (at_ + c))).map (r0 ++ [if 0 < c then l.getD (at_ + c - 1) 0 else 0] ++ ·) := fun q => by
                rw [hC, if_neg q, Option.map_map]
                refine congrArg (fun f => Option.map f _) ?_
                funext y
                simp
              clear hC
              by_cases b2 : c = 2
              · subst b2
                have hat := int_at (ls := l) (i := at_) (by omega)
                have hat2 := int_at (ls := l) (i := at_ + 2 - 1) (by omega)
                by_cases b3 : l.getD at_ 0 = 0
                · have hgo := hgo (fun q => q.2 b3)
                  rw [if_pos (by omega)] at hgo
                  rw [b3] at hat
                  obtain ⟨v4, G4, q1, q2, q3⟩ := happ (l.getD (at_ + 2 - 1) 0)
                  refine stp (And.intro ha (And.intro hat (And.intro hat2 q1))) ?_
                  exact hJ4 G4 v4 _ q2 q3 (by simp [hrl]) hgo _ fgt
                · have hx := hrows 0
                  rw [hstop ⟨rfl, b3⟩] at hx
                  have hx : K (.tup [.nils, .int .i64 7]) H := hx
                  refine stp (And.intro ha (And.intro hat b3)) ?_
                  rw [hp_nil]
                  exact aret_past (past_trans hG hG3) hs (by simp only [u_top, u_bool, u_int, u_str, u_nilp, u_nils, u_nilf, u_nilm, u_nili, u_emp, u_byteV, u_ptr, u_wr, u_wc, u_agg, u_tup, u_rd, u_imm, u_func, u_nil, u_cons, u_app, uc_nil, uc_cons, uc_app, u_bytes, uc_bytes, u_ints, uc_ints, cells_bool, cells_int, cells_str, cells_agg, cells_ptr, cells_nils, cells_imm, cells_wr, cells_wc, cells_nilp, cells_nilf, cells_nilm, cells_rd, cells_emp, cells_byteV, cells_func, and_self, and_true, true_and, u_slA, uc_strs, cells_slA, strV_is]) hx
              · have hgo := hgo (fun q => b2 q.1)
                by_cases b4 : 0 < c
                · have hat2 := int_at (ls := l) (i := at_ + c - 1) (by omega)
                  rw [if_pos b4] at hgo
                  obtain ⟨v4, G4, q1, q2, q3⟩ := happ (l.getD (at_ + c - 1) 0)
                  refine stp (And.intro ha (And.intro hat2 (And.intro q1 (And.intro b2 b4)))) ?_
                  exact hJ4 G4 v4 _ q2 q3 (by simp [hrl]) hgo _ fgt
                · rw [if_neg b4] at hgo
                  obtain ⟨v4, G4, q1, q2, q3⟩ := happ 0
                  refine stp (And.intro ha (And.intro q1 (And.intro b2 b4))) ?_
                  exact hJ4 G4 v4 _ q2 q3 (by simp [hrl]) hgo _ fgt
            · clear hJ3
              rw [List.drop_of_length_le (by omega), colsR] at hC
              have hC : colsR cs l = some r0 := by rw [hC]; simp
              rw [hC] at hI
              rcases hv3 with ⟨_, hnil⟩ | ⟨id, gen, rfl, hid, hg⟩
              · exfalso
                have := congrArg List.length hnil
                rw [List.length_map] at this
                simp only [List.length_nil] at this
                omega
              · rw [List.length_map] at *
                have hflat : (r0.map (AV.int .i64)).flatMap AV.cells = r0.map (AV.int .i64) := map_one (AV.int .i64) (fun _ => rfl) r0
                rw [hflat] at hg
                have hone : (r0.map (AV.int .i64)).all AV.one = true := by
                  rw [List.all_eq_true]
                  intro x hx
                  obtain ⟨y, _, rfl⟩ := List.mem_map.1 hx
                  rfl
                have hPk : Past G (G3.kill id) := past_kill hG3 hid
                have hv4 := slat_more (G2 := G3.kill id) hv2 (fun i o h => (hPk.get i (G.lt h)).trans h)
                obtain ⟨v4, G4, q1, q2, q3⟩ := slat_app (b := 24) (ys := [rowV r0]) (slat_hp hv4 []) (by rw [hp_nil]; exact (past_trans hG hPk).next) (row_len _) (row_one [r0]) (by
                  have hmm : m * cs.sum ≤ n * cs.sum := Nat.mul_le_mul_right _ (by omega)
                  have hm1 : m * 1 ≤ m * cs.sum := Nat.mul_le_mul_left _ hwp
                  simp only [List.length_map, List.length_cons, List.length_nil]
                  omega)
                rw [rowV_is] at q1
                refine stp0 ?_
                rw [hp_nil, frz_wr (t := 12) (by decide) rfl hg (by rw [List.length_map]) hone, ← hp_nil (H := G3.kill id)]
                refine stp (And.intro q1 hk2) ?_
                refine hJ2 G4 v4 (out ++ [r0]) (by rw [List.map_append]; exact q2) (beside_past q3 (Nat.le_refl _) (past_hp (past_trans hG hPk) [])) (by simp [hol]) ?_ _ fgt
                rw [hI]
                cases rowsR cs cs.sum q rest with
                | none => rfl
                | some rs => simp
          · have hmn2 : m = n := by omega
            subst hmn2
            rw [Nat.sub_self, rowsR] at hI
            have hI : rowsR cs cs.sum m all = some out := by rw [hI]; simp
            rw [hI] at hrows
            have hz : all.drop (m * cs.sum) = [] := List.drop_of_length_le (by omega)
            rw [hz]
            simp (maxSteps := 4000000) (disch := (first | omega | (simp only [set_next, List.length_append, List.length_cons, List.length_nil, List.length_take, List.length_drop, List.length_map, List.length_set, List.length_replicate]; omega) | (simp only [set_next, ne_eq, reduceCtorEq, not_false_eq_true]))) only [List.map_nil, slA_len, List.length_nil, go_sem, Nat.reduceLeDiff, Nat.reduceAdd, Nat.reduceSub, Nat.reduceMul, Nat.reduceLT, Int.reduceLT, Int.reduceLE, Int.reduceAdd, Int.reduceSub, Int.reduceMul, Int.reduceToNat, Int.reduceNeg, Int.reduceEq, Nat.reducePow, Int.reducePow, Nat.reduceEqDiff, decide_true, decide_false, reduceIte, reduceCtorEq, Int.reduceBEq, Int.reduceBNe, bne_self_eq_false, Int.cast_ofNat_Int, Bool.not_true, Bool.not_false, IntKind.bits, w_nat, w_lit, w_add, w_addl, w_ladd, w_sub, w_subl, w_lsub, w_mul, w_mull, w_lmul, t_div, t_divl, t_mod, t_modl, i_lt, i_ltl, i_llt, i_le, i_lel, i_lle, i_eq, i_eql, i_leq, Nat.zero_le, d_beq, d_bne, d_bytes, byte_at, Int.toNat_natCast, toNat_lit, decide_eq_true, decide_eq_false, if_pos, if_neg, slA_len, slA_idx, slA_cells, flat_slA, one_slA, cells_slA, map_mid, strV_is, hp_get1, hp_get2, hp_get3, hp_set1, hp_set2, hp_set3, hp_old, hp_sold, set_got, set_set, set_next, set_other, bytesL, bytes_all, List.length_map, aapp_nils, aapp_wr, List.flatMap_cons, List.flatMap_nil, Nat.mul_one]
            obtain ⟨G5, k5, w1, w2⟩ := slat_shut hv2 (row_len out)
            rw [hp_nil]
            refine aret_shut (.tup _ _ [] [_] _ _ w1) (w2 H (Nat.le_refl _) hG) hs ?_ (hrows k5)
            show AV.under H.next (.tup [slA k5 1 (out.map rowV), .int .i64 0])
            simp only [u_tup, u_cons, u_nil, u_int, u_slA, and_true]
            exact row_u _ _
        · have hx := h 0
          rw [if_neg (fun q => c3 q.2.2)] at hx
          have hx : K (.tup [.nils, .int .i64 6]) H := hx
          rw [← hln] at c3
          refine stp (And.intro c2 c3) ?_
          exact aret_u hs (hx)
    · have hx := h 0
      rw [if_neg (fun q => c1 q.1)] at hx
      have hx : K (.tup [.nils, .int .i64 6]) H := hx
      rw [decide_eq_false c1]
      refine stp0 ?_
      exact aret_u hs (hx)
end
section
variable {g : Ghost} {w : World} {H : AHeap}
end
theorem flat_take {sz : Nat} : ∀ (xs : List AV) (i : Nat), (∀ x ∈ xs, x.cells.length = sz) → i ≤ xs.length → (xs.flatMap AV.cells).take (i * sz) = (xs.take i).flatMap AV.cells
  | [], i, _, h => by
    have : i = 0 := by simpa using h
    subst this
    simp
  | x :: xs, 0, _, _ => by simp
  | x :: xs, i + 1, hx, h => by
    have h1 := hx x List.mem_cons_self
    rw [List.flatMap_cons, List.take_succ_cons, List.flatMap_cons, List.take_append, List.take_of_length_le (by rw [h1, Nat.succ_mul]; omega), h1, show (i + 1) * sz - sz = i * sz by rw [Nat.succ_mul]; omega, flat_take xs i (fun y hy => hx y (List.mem_cons_of_mem _ hy)) (by simpa using h)]
theorem flat_drop {sz : Nat} : ∀ (xs : List AV) (i : Nat), (∀ x ∈ xs, x.cells.length = sz) → i ≤ xs.length → (xs.flatMap AV.cells).drop (i * sz) = (xs.drop i).flatMap AV.cells
  | [], i, _, h => by
    have : i = 0 := by simpa using h
    subst this
    simp
  | x :: xs, 0, _, _ => by simp
  | x :: xs, i + 1, hx, h => by
    have h1 := hx x List.mem_cons_self
    rw [List.flatMap_cons, List.drop_succ_cons, List.drop_append, List.drop_of_length_le (by rw [h1, Nat.succ_mul]; omega), List.nil_append, h1, show (i + 1) * sz - sz = i * sz by rw [Nat.succ_mul]; omega, flat_drop xs i (fun y hy => hx y (List.mem_cons_of_mem _ hy)) (by simpa using h)]
theorem slat_low {n0 n1 : Nat} {G : AHeap} {e sz : Nat} {v : AV} {xs : List AV} (h : SlAt n1 G e sz v xs) (hn : n0 ≤ n1) : SlAt n0 G e sz v xs := by
  rcases h with h | ⟨id, gen, h1, h2, h3⟩
  · exact .inl h
  · exact .inr ⟨id, gen, h1, Nat.le_trans hn h2, h3⟩
theorem slat_nid {n0 : Nat} {G : AHeap} {e sz : Nat} {v : AV} {xs : List AV} (h : SlAt n0 G e sz v xs) {j : Nat} (hj : j < n0) : ∀ gen off len sz, v ≠ .wr j gen off len sz := by
  intro gen off len sz' hv
  rcases h with ⟨rfl, _⟩ | ⟨id, gen', rfl, hid, _⟩
  · cases hv
  · cases hv
    omega
theorem past_reset {H G : AHeap} {id gen : Nat} {e : TypeId} {R R' : List AV} (h : Past (H.set id (.row e gen R)) G) (hid : id < H.next) : Past (H.set id (.row e gen R')) (G.set id (.row e gen R')) := by
  have hn : H.next ≤ G.next := h.next
  refine ⟨hn, fun i hi => ?_⟩
  have hi : i < H.next := hi
  by_cases q : i = id
  · rw [q, set_got (by omega), set_got hid]
  · rw [set_other q, set_other q, h.get i hi, set_other q]
section
variable {H : AHeap} {K : AV → AHeap → Prop}
end
section
variable {H : AHeap} {K : AV → AHeap → Prop}
end
section
variable {H : AHeap} {K : AV → AHeap → Prop}
end
section
variable {H : AHeap} {K : AV → AHeap → Prop}
end
section
variable {H : AHeap} {K : AV → AHeap → Prop}
end
section
variable {G : AHeap} {e : TypeId} {gd d off len sz m : Nat} {R ys : List AV} {x : AV}
end
section
variable {H : AHeap} {K : AV → AHeap → Prop}
end
section
variable {H : AHeap} {K : AV → AHeap → Prop}
end
section
variable {H : AHeap} {K : AV → AHeap → Prop}
end
section
variable {H : AHeap} {K : AV → AHeap → Prop}
end
/-- A tree of which each node has at most n properties and kids. -/
inductive TrM (n : Nat) : Tr → Prop
  | mk (name : List UInt8) (kp : Nat) (props : List (List UInt8 × List UInt8)) (kk : Nat) (kids : List Tr) : name.length ≤ 100000 → props.length ≤ n → (∀ p ∈ props, p.1.length ≤ 100000 ∧ p.2.length ≤ 100000) → kids.length ≤ n → (∀ k ∈ kids, TrM n k) → TrM n (.mk name kp props kk kids)
theorem TrM.n {n : Nat} {t : Tr} (h : TrM n t) : t.name.length ≤ 100000 := by cases h; assumption
theorem TrM.p {n : Nat} {t : Tr} (h : TrM n t) : t.props.length ≤ n := by cases h; assumption
theorem TrM.ps {n : Nat} {t : Tr} (h : TrM n t) : ∀ p ∈ t.props, p.1.length ≤ 100000 ∧ p.2.length ≤ 100000 := by cases h; assumption
theorem TrM.k {n : Nat} {t : Tr} (h : TrM n t) : t.kids.length ≤ n := by cases h; assumption
theorem TrM.ks {n : Nat} {t : Tr} (h : TrM n t) : ∀ k ∈ t.kids, TrM n k := by cases h; assumption
theorem trm_0 (n : Nat) : TrM n tr0 := .mk _ _ _ _ _ (by simp) (by simp) (by simp) (by simp) (by simp)
theorem trm_ok {n : Nat} {t : Tr} (hn : n ≤ 1000000) (h : TrM n t) : TrOk t := by
  induction h with
  | mk nm kp ps kk ks h1 h2 h3 h4 _ ih => exact .mk nm kp ps kk ks (by omega) (by omega) (fun p hp => by have := h3 p hp; omega) (by omega) ih
theorem trm_low : ∀ (l : Nat) (t : Tr), tlow l t = true → TrM 300 t
  | 0, t, h => by
    rw [tlow] at h
    cases h
  | l + 1, .mk nm kp ps kk ks, h => by
    rw [tlow] at h
    simp only [Bool.and_eq_true, decide_eq_true_eq, List.all_eq_true] at h
    obtain ⟨⟨⟨⟨h1, h2⟩, h3⟩, h4⟩, h5⟩ := h
    refine .mk nm kp ps kk ks (Nat.le_trans h1 (by decide)) h2 (fun p hp => ?_) (Nat.le_trans h3 (by decide)) (fun k hk => trm_low l k (h5 k hk))
    have := h4 p hp
    unfold plow at this
    simp only [Bool.and_eq_true, decide_eq_true_eq] at this
    omega
/-! ### what is found, of trees that are alike -/
section
variable {H : AHeap} {K : AV → AHeap → Prop}
end
def famV : Option (Tr × Tr) → AV
  | some (k, u) => .tup [k.V, u.V, .bool true]
  | none => .tup [tr0.V, tr0.V, .bool false]
theorem joins_le {p : List UInt8} {ns : List (List UInt8)} (h : partsP p = some ns) (hp_ : p.length ≤ 5000) (i : Nat) : (ns.take i).length ≤ 65536 ∧ (∀ s ∈ ns.take i, s.length ≤ 65536) ∧ (joinPs (ns.take i)).length ≤ 50000 := by
  have h8 := partsP_le h
  have hm : ∀ s ∈ ns.take i, s.length ≤ 5000 := fun s hs => Nat.le_trans (parts_mem h s (List.mem_of_mem_take hs)) hp_
  have hl : (ns.take i).length ≤ 8 := by rw [List.length_take]; omega
  have hj := joinPs_len hm
  have := Nat.mul_le_mul_right (5000 + 1) hl
  refine ⟨by omega, fun s hs => Nat.le_trans (hm s hs) (by decide), by omega⟩
theorem walkTo_m {n : Nat} : ∀ (ns : List (List UInt8)) (t k : Tr), TrM n t → walkTo t ns = some k → TrM n k
  | [], t, k, h, hw => by
    rw [walkTo] at hw
    obtain rfl := Option.some.inj hw
    exact h
  | nm :: ns, t, k, h, hw => by
    rw [walkTo] at hw
    cases hk : kidT t nm with
    | none => rw [hk] at hw; cases hw
    | some x =>
      rw [hk] at hw
      exact walkTo_m ns x k (h.ks x (List.mem_of_find?_eq_some hk)) hw
theorem findT_m {n : Nat} {t k : Tr} {p : List UInt8} (h : TrM n t) (hf : findT t p = some k) : TrM n k := by
  unfold findT at hf
  split at hf
  · exact walkTo_m _ t k h hf
  · cases hf
theorem getD_m {n : Nat} {x : Option Tr} (h : ∀ k, x = some k → TrM n k) : TrM n (x.getD tr0) := by
  cases x with
  | none => exact trm_0 _
  | some k => exact h k rfl
theorem valT_m {n : Nat} {t : Tr} {nm v : List UInt8} (h : TrM n t) (hv : valT t nm = some v) : v.length ≤ 100000 := by
  unfold valT at hv
  obtain ⟨p, hp, rfl⟩ := Option.map_eq_some_iff.1 hv
  exact (h.ps p (List.mem_of_find?_eq_some hp)).2
theorem famO_m {n : Nat} {t : Tr} {p : List UInt8} (h : TrM n t) : TrM n ((famO t p).getD (tr0, tr0)).1 ∧ TrM n ((famO t p).getD (tr0, tr0)).2 := by
  unfold famO
  split
  · rename_i ns k h1 h2
    split
    · exact ⟨trm_0 _, trm_0 _⟩
    · exact ⟨findT_m h h2, getD_m (fun x hx => findT_m h hx)⟩
  · exact ⟨trm_0 _, trm_0 _⟩
section
variable {H : AHeap} {K : AV → AHeap → Prop}
theorem family_a {n : Nat} {t : Tr} {p : List UInt8} (hn : n ≤ 100000) (hm : TrM n t) (hp_ : p.length ≤ 5000) (h : K (famV (famO t p)) H) : (ACalls Tryz.prog) 74 [t.V, .str (B p)] H K := by
  refine acalls_go mo t74 (fun hs hu => ?_)
  have ho := trm_ok (by omega) hm
  have hVi := Tr.V_is t
  have e0 : tr0.V = .agg [.str (B []), .nils, .nils] := tr0_V
  unfold famO at h
  simp only [c74, Tr.V_is, go_sem, Nat.reduceLeDiff, Nat.reduceAdd, Nat.reduceSub, Nat.reduceMul, Nat.reduceLT, Int.reduceLT, Int.reduceLE, Int.reduceAdd, Int.reduceSub, Int.reduceMul, Int.reduceToNat, Int.reduceNeg, Int.reduceEq, Nat.reducePow, Int.reducePow, Nat.reduceEqDiff, decide_true, decide_false, reduceIte, reduceCtorEq, Int.reduceBEq, Int.reduceBNe, bne_self_eq_false, Int.cast_ofNat_Int, Bool.not_true, Bool.not_false, IntKind.bits]
  refine Parts_a (by omega) (fun k => ?_)
  cases hpp : partsP p with
  | none =>
    rw [hpp] at h
    have hx : K (.tup [tr0.V, tr0.V, .bool false]) H := h
    rw [e0] at hx
    rw [partsV_n]
    refine stp0 ?_
    rw [← hVi]
    refine Find_a ho (by omega) ?_
    rw [foundV_is]
    generalize findT t p = fz at *
    have hVf := Tr.V_is (fz.getD tr0)
    refine stp0 ?_
    exact aret_u hs (hx)
  | some ns =>
    rw [hpp] at h
    rw [partsV_s]
    refine stp0 ?_
    rw [← hVi]
    refine Find_a ho (by omega) ?_
    cases hf : findT t p with
    | none =>
      rw [hf] at h
      have hx : K (.tup [tr0.V, tr0.V, .bool false]) H := h
      rw [e0] at hx
      rw [foundV_n]
      refine stp0 ?_
      exact aret_u hs (hx)
    | some x =>
      rw [hf] at h
      simp only at h
      rw [foundV_s]
      by_cases h0 : ns = []
      · rw [if_pos h0] at h
        have hx : K (.tup [tr0.V, tr0.V, .bool false]) H := h
        rw [e0] at hx
        subst h0
        refine stp0 ?_
        exact aret_u hs (hx)
      · have hl := List.length_pos_iff.2 h0
        have h8 := partsP_le hpp
        rw [if_neg h0] at h
        obtain ⟨j1, j2, j3⟩ := joins_le hpp hp_ (ns.length - 1)
        obtain ⟨k2, e2⟩ := slA_cut k 1 (ns.map strV) (i := ns.length - 1) (by rw [List.length_map]; omega)
        rw [← List.map_take] at e2
        simp only [asliceSl, abound] at e2
        refine stp e2 ?_
        refine ⟨_, Join_a j1 j2 ⟨rfl, rfl⟩, ?_⟩
        refine stp0 ?_
        rw [← hVi]
        refine Find_a ho (by omega) ?_
        rw [foundV_is]
        generalize findT t (joinPs (ns.take (ns.length - 1))) = fz at *
        have hx : K (.tup [x.V, (fz.getD tr0).V, .bool true]) H := h
        have hVx := Tr.V_is x
        have hVz := Tr.V_is (fz.getD tr0)
        have hux := Tr.V_u H.next x
        have huz := Tr.V_u H.next (fz.getD tr0)
        rw [hVx] at hux hx
        rw [hVz] at huz hx
        refine stp0 ?_
        have hG : Past H ((hp H [trRow t, trRow tr0, trRow tr0, trRow x, trRow (fz.getD tr0)]).kill (H.next + 4)) := past_kill (past_hp past_refl _) (by omega)
        have hg1 : ((hp H [trRow t, trRow tr0, trRow tr0, trRow x, trRow (fz.getD tr0)]).kill (H.next + 4)).get (H.next + 1) = some (trRow tr0) := by rw [kill_get_ne _ _ _ (by omega)]; exact hp_get _ _ 1
        have hg2 : ((hp H [trRow t, trRow tr0, trRow tr0, trRow x, trRow (fz.getD tr0)]).kill (H.next + 4)).get (H.next + 2) = some (trRow tr0) := by rw [kill_get_ne _ _ _ (by omega)]; exact hp_get _ _ 2
        have hg3 : ((hp H [trRow t, trRow tr0, trRow tr0, trRow x, trRow (fz.getD tr0)]).kill (H.next + 4)).get (H.next + 3) = some (trRow x) := by rw [kill_get_ne _ _ _ (by omega)]; exact hp_get _ _ 3
        rw [frz_one (t := 11) rfl (hp_get _ _ 4)]
        simp only [trRow_is] at hG hg1 hg2 hg3
        rw [show ([AV.str (B tr0.name), slA tr0.kp 2 (tr0.props.map propV), slA tr0.kk 3 (tr0.kids.map Tr.V)] : List AV) = [.str (B []), .nils, .nils] from rfl] at hG hg1 hg2 hg3
        generalize (hp H [_, _, _, _, _]).kill (H.next + 4) = G at *
        have hl1 := G.lt hg1
        have hl2 := G.lt hg2
        have hl3 := G.lt hg3
        rw [← hp_nil (H := G)]
        refine stp (And.intro hg1 (And.intro hg2 hg3)) ?_
        refine aret_past (past_hp (past_set (past_set hG (by omega) _) (by omega) _) []) hs ?_ hx
        simp only [u_tup, u_cons, u_nil, u_bool, and_true]
        exact ⟨hux, huz⟩
end
theorem rowG {r : List Int} {i : Nat} (h : i < r.length) : (r.map (AV.int .i64))[i]? = some (.int .i64 (r.getD i 0)) := int_at h
theorem map_stepC {α β : Type} (f : α → β) {l : List α} {i : Nat} {d : α} (h : i < l.length) : (l.take (i + 1)).map f = (l.take i).map f ++ [f (l.getD i d)] := by
  rw [List.take_add_one, List.getElem?_eq_getElem h, List.map_append, List.getD_eq_getElem?_getD, List.getElem?_eq_getElem h]
  rfl
def spR (r : List Int) : Int × Int := (r.getD 0 0, r.getD 1 0)
section
variable {H : AHeap} {K : AV → AHeap → Prop}
theorem regs_a {n : Nat} {t : Tr} {p : List UInt8} (hn : n ≤ 100000) (hm : TrM n t) (hp_ : p.length ≤ 5000) (h : ∀ k, K (.tup [slA k 2 ((regsS t p).1.map spnV), .int .i64 (regsS t p).2]) H) : (ACalls Tryz.prog) 34 [t.V, .str (B p)] H K := by
  refine acalls_go mo t34 (fun hs hu => ?_)
  have ho := trm_ok (by omega) hm
  have hVi := Tr.V_is t
  have e0 : tr0.V = .agg [.str (B []), .nils, .nils] := tr0_V
  obtain ⟨m1, m2⟩ := famO_m (p := p) hm
  unfold regsS kReg at h
  simp only [c34, Tr.V_is, go_sem, Nat.reduceLeDiff, Nat.reduceAdd, Nat.reduceSub, Nat.reduceMul, Nat.reduceLT, Int.reduceLT, Int.reduceLE, Int.reduceAdd, Int.reduceSub, Int.reduceMul, Int.reduceToNat, Int.reduceNeg, Int.reduceEq, Nat.reducePow, Int.reducePow, Nat.reduceEqDiff, decide_true, decide_false, reduceIte, reduceCtorEq, Int.reduceBEq, Int.reduceBNe, bne_self_eq_false, Int.cast_ofNat_Int, Bool.not_true, Bool.not_false, IntKind.bits]
  rw [← hVi]
  refine family_a hn hm hp_ ?_
  cases hf : famO t p with
  | none =>
    rw [hf] at h
    have hx : K (.tup [.nils, .int .i64 8]) H := h 0
    rw [show famV none = .tup [tr0.V, tr0.V, .bool false] from rfl, e0]
    refine stp0 ?_
    rw [← e0]
    refine Value_a (trm_ok (n := n) (by omega) (trm_0 _)) ?_
    rw [show valT tr0 [114, 101, 103] = none from rfl, show valV none = .tup [.str (B []), .bool false] from rfl, e0]
    refine stp0 ?_
    exact aret_u hs (hx)
  | some ku =>
    obtain ⟨kd, up⟩ := ku
    rw [hf] at h m1 m2
    have m1 : TrM n kd := m1
    have m2 : TrM n up := m2
    simp only at h
    have hVk := Tr.V_is kd
    have hVu := Tr.V_is up
    rw [show famV (some (kd, up)) = .tup [kd.V, up.V, .bool true] from rfl, hVk, hVu]
    refine stp0 ?_
    rw [← hVk]
    refine Value_a (trm_ok (by omega) m1) ?_
    rw [hVk]
    cases hv : valT kd [114, 101, 103] with
    | none =>
      rw [hv] at h
      have hx : K (.tup [.nils, .int .i64 8]) H := h 0
      rw [show valV none = .tup [.str (B []), .bool false] from rfl]
      refine stp0 ?_
      exact aret_u hs (hx)
    | some v =>
      have hvl := valT_m m1 hv
      rw [hv] at h
      simp only at h
      rw [show valV (some v) = .tup [.str (B v), .bool true] from rfl]
      refine stp0 ?_
      rw [← hVu]
      refine cells_a (trm_ok (by omega) m2) (fun nm w hw => valT_m m2 hw) ?_
      rw [hVu]
      cases hc : cellsO up with
      | none =>
        rw [hc] at h
        have hx : K (.tup [.nils, .int .i64 6]) H := h 0
        rw [show cellsV none = .tup [.int .i64 0, .int .i64 0, .bool false] from rfl]
        refine stp0 ?_
        exact aret_u hs (hx)
      | some pr =>
        obtain ⟨a, s⟩ := pr
        obtain ⟨c1, c2, c3⟩ := cellsO_le hc
        rw [hc] at h
        simp only at h
        rw [show cellsV (some (a, s)) = .tup [.int .i64 (a : Int), .int .i64 (s : Int), .bool true] from rfl]
        refine stp0 ?_
        rw [show ([AV.int .i64 (a : Int), .int .i64 (s : Int)] : List AV) = [a, s].map colV from rfl]
        refine rows_a (by omega) (by simp) (by simp) (fun c hc => by simp only [List.mem_cons, List.mem_nil_iff, or_false] at hc; rcases hc with rfl | rfl <;> omega) (fun k => ?_)
        obtain ⟨r1, r2⟩ := rowsS_32 v [a, s]
        rw [show ([a, s].map colV) = ([AV.int .i64 (a : Int), .int .i64 (s : Int)] : List AV) from rfl]
        by_cases he : (rowsS v [a, s]).2 = 0
        · generalize rowsS v [a, s] = R at *
          have hl1 : R.1.length ≤ 100000 := by omega
          refine stp he ?_
          refine go_loopS mono (σ := AHeap × AV × Nat) (fun z => [(16, z.2.1), (58, .int .i64 (z.2.2 : Int))]) (fun z => hp z.1 []) (fun z => SlAt H.next z.1 93 2 z.2.1 (((R.1.take z.2.2).map spR).map spnV) ∧ Past H z.1 ∧ z.2.2 ≤ R.1.length) (fun z => R.1.length - z.2.2) (hp H [trRow t, trRow kd, trRow up], .nils, 0) ?_ (by rw [hp_nil]; simp only [trRow_is]) ⟨slat_nil, past_hp past_refl _, Nat.zero_le _⟩ (fun z hz J hJ => ?_)
          · exact fgt
          obtain ⟨G, v2, i⟩ := z
          obtain ⟨hv2, hG, hil⟩ := hz
          simp only at hv2 hG hil
          simp only [blurR_nil, blurR_some, blurR_none, blurC_region, blurC_regionN, blurC_fregion, blurT_nil, blurT_cons, blurC_seq, blurC_both, blurC_cond, blurC_block, blurC_loop, blurC_skip, blurC_exit, blurC_ret, tellS_nil, tellS_cons, List.set_cons_zero, List.set_cons_succ, tops_zero, tops_succ]
          by_cases h1 : i < R.1.length
          · have ha := row_at h1
            have hst := map_stepC spR (d := []) h1
            obtain ⟨q1, q2⟩ := r2 _ (memD (d := []) h1)
            have hJ2 := fun (G2 : AHeap) (v3 : AV) p1 p2 a' => hJ (G2, v3, i + 1) a' ⟨p1, p2, h1⟩ (by show R.1.length - (i + 1) < R.1.length - i; omega)
            clear hJ
            simp only [hst] at hJ2
            have hlt : ((R.1.take i).map spR).length ≤ R.1.length := by rw [List.length_map, List.length_take]; omega
            generalize R.1.getD i [] = r at *
            generalize (R.1.take i).map spR = ys at *
            have q1 : r.length = 2 := q1
            have g0 := rowG (r := r) (i := 0) (by omega)
            have g1 := rowG (r := r) (i := 1) (by omega)
            obtain ⟨v3, G3, w1, w2, w3⟩ := slat_app (b := 16) (ys := [spR r].map spnV) (slat_hp hv2 []) (by rw [hp_nil]; exact hG.next) (spn_len _) (spn_one _) (by simp only [List.length_map, List.length_cons, List.length_nil]; omega)
            rw [← List.map_append] at w2
            have w1 : aapp 93 2 16 (hp G []) v2 (.imm 2 [.agg [.int .i64 (r.getD 0 0), .int .i64 (r.getD 1 0)]]) = some (v3, hp G3 []) := w1
            simp (maxSteps := 4000000) (disch := (first | omega | (simp only [set_next, List.length_append, List.length_cons, List.length_nil, List.length_take, List.length_drop, List.length_map, List.length_set, List.length_replicate]; omega) | (simp only [set_next, ne_eq, reduceCtorEq, not_false_eq_true]))) only [ha, rowV_cells, g0, g1, w1, go_sem, Nat.reduceLeDiff, Nat.reduceAdd, Nat.reduceSub, Nat.reduceMul, Nat.reduceLT, Int.reduceLT, Int.reduceLE, Int.reduceAdd, Int.reduceSub, Int.reduceMul, Int.reduceToNat, Int.reduceNeg, Int.reduceEq, Nat.reducePow, Int.reducePow, Nat.reduceEqDiff, decide_true, decide_false, reduceIte, reduceCtorEq, Int.reduceBEq, Int.reduceBNe, bne_self_eq_false, Int.cast_ofNat_Int, Bool.not_true, Bool.not_false, IntKind.bits, w_nat, w_lit, w_add, w_addl, w_ladd, w_sub, w_subl, w_lsub, w_mul, w_mull, w_lmul, t_div, t_divl, t_mod, t_modl, i_lt, i_ltl, i_llt, i_le, i_lel, i_lle, i_eq, i_eql, i_leq, Nat.zero_le, d_beq, d_bne, d_bytes, byte_at, Int.toNat_natCast, toNat_lit, decide_eq_true, decide_eq_false, if_pos, if_neg, slA_len, slA_idx, slA_cells, flat_slA, one_slA, cells_slA, map_mid, strV_is, hp_get1, hp_get2, hp_get3, hp_set1, hp_set2, hp_set3, hp_old, hp_sold, set_got, set_set, set_next, set_other, bytesL, bytes_all, List.length_map, aapp_nils, aapp_wr, List.flatMap_cons, List.flatMap_nil, Nat.mul_one]
            exact hJ2 G3 v3 w2 (beside_past w3 (Nat.le_refl _) (past_hp hG [])) _ fgt
          · rw [List.take_of_length_le (by omega)] at hv2
            obtain ⟨G5, k5, w1, w2⟩ := slat_shut hv2 (spn_len _)
            have hx := h k5
            rw [he] at hx
            have hx : K (.tup [slA k5 2 ((R.1.map spR).map spnV), .int .i64 0]) H := hx
            refine stp0 ?_
            rw [hp_nil]
            refine aret_shut (.tup _ _ [] [_] _ _ w1) (w2 H (Nat.le_refl _) hG) hs ?_ hx
            show AV.under H.next (.tup [slA k5 2 ((R.1.map spR).map spnV), .int .i64 0])
            simp only [u_tup, u_cons, u_nil, u_int, u_slA, and_true]
            exact spn_u _ _
        · have hnil : (rowsS v [a, s]).1 = [] := by
            unfold rowsS at he ⊢
            split
            · rename_i hc2
              rw [if_pos hc2] at he
              cases hr : rowsR [a, s] [a, s].sum (v.length / 4 / [a, s].sum) (words (v.length / 4) v) with
              | none => rfl
              | some l => rw [hr] at he; exact absurd rfl he
            · rfl
          rw [hnil] at h
          have hx := h 0
          generalize rowsS v [a, s] = R at *
          have hx : K (.tup [.nils, .int .i64 R.2]) H := hx
          refine stp he ?_
          exact aret_u hs (hx)
theorem thru1_a {id : Nat} {at_ : Int} {r : List Int} (hg : H.get id = some (.row 3 0 [.int .i64 at_])) (hr : r.length = 3) (h0 : 0 ≤ r.getD 0 0) (ha : 0 ≤ at_ ∧ at_ ≤ 4294967295) (hr0 : r.getD 0 0 ≤ 4294967295) (h : K (.bool (inRow at_ r)) H) : (ACalls Tryz.prog) 131 [rowV r, .ptr id 0 0] H K := by
  refine acalls_go mo t131 (fun hs hu => ?_)
  have hlt := H.lt hg
  have g0 := rowG (r := r) (i := 0) (by omega)
  have g2 := rowG (r := r) (i := 2) (by omega)
  unfold inRow at h
  simp only [c131, rowV_is, go_sem, Nat.reduceLeDiff, Nat.reduceAdd, Nat.reduceSub, Nat.reduceMul, Nat.reduceLT, Int.reduceLT, Int.reduceLE, Int.reduceAdd, Int.reduceSub, Int.reduceMul, Int.reduceToNat, Int.reduceNeg, Int.reduceEq, Nat.reducePow, Int.reducePow, Nat.reduceEqDiff, decide_true, decide_false, reduceIte, reduceCtorEq, Int.reduceBEq, Int.reduceBNe, bne_self_eq_false, Int.cast_ofNat_Int, Bool.not_true, Bool.not_false, IntKind.bits]
  by_cases h1 : r.getD 0 0 ≤ at_
  · rw [decide_eq_true h1, Bool.true_and] at h
    have hw : IntKind.wrap .i64 (at_ - r.getD 0 0) = at_ - r.getD 0 0 := wi64 (by omega) (by omega)
    simp (maxSteps := 4000000) (disch := (first | omega | (simp only [set_next, List.length_append, List.length_cons, List.length_nil, List.length_take, List.length_drop, List.length_map, List.length_set, List.length_replicate]; omega) | (simp only [set_next, ne_eq, reduceCtorEq, not_false_eq_true]))) only [hg, g0, g2, h1, hw, go_sem, Nat.reduceLeDiff, Nat.reduceAdd, Nat.reduceSub, Nat.reduceMul, Nat.reduceLT, Int.reduceLT, Int.reduceLE, Int.reduceAdd, Int.reduceSub, Int.reduceMul, Int.reduceToNat, Int.reduceNeg, Int.reduceEq, Nat.reducePow, Int.reducePow, Nat.reduceEqDiff, decide_true, decide_false, reduceIte, reduceCtorEq, Int.reduceBEq, Int.reduceBNe, bne_self_eq_false, Int.cast_ofNat_Int, Bool.not_true, Bool.not_false, IntKind.bits, w_nat, w_lit, w_add, w_addl, w_ladd, w_sub, w_subl, w_lsub, w_mul, w_mull, w_lmul, t_div, t_divl, t_mod, t_modl, i_lt, i_ltl, i_llt, i_le, i_lel, i_lle, i_eq, i_eql, i_leq, Nat.zero_le, d_beq, d_bne, d_bytes, byte_at, Int.toNat_natCast, toNat_lit, decide_eq_true, decide_eq_false, if_pos, if_neg, slA_len, slA_idx, slA_cells, flat_slA, one_slA, cells_slA, map_mid, strV_is, hp_get1, hp_get2, hp_get3, hp_set1, hp_set2, hp_set3, hp_old, hp_sold, set_got, set_set, set_next, set_other, bytesL, bytes_all, List.length_map, aapp_nils, aapp_wr, List.flatMap_cons, List.flatMap_nil, Nat.mul_one]
    exact aret_u hs (h)
  · rw [decide_eq_false h1, Bool.false_and] at h
    simp (maxSteps := 4000000) (disch := (first | omega | (simp only [set_next, List.length_append, List.length_cons, List.length_nil, List.length_take, List.length_drop, List.length_map, List.length_set, List.length_replicate]; omega) | (simp only [set_next, ne_eq, reduceCtorEq, not_false_eq_true]))) only [hg, g0, g2, h1, go_sem, Nat.reduceLeDiff, Nat.reduceAdd, Nat.reduceSub, Nat.reduceMul, Nat.reduceLT, Int.reduceLT, Int.reduceLE, Int.reduceAdd, Int.reduceSub, Int.reduceMul, Int.reduceToNat, Int.reduceNeg, Int.reduceEq, Nat.reducePow, Int.reducePow, Nat.reduceEqDiff, decide_true, decide_false, reduceIte, reduceCtorEq, Int.reduceBEq, Int.reduceBNe, bne_self_eq_false, Int.cast_ofNat_Int, Bool.not_true, Bool.not_false, IntKind.bits, w_nat, w_lit, w_add, w_addl, w_ladd, w_sub, w_subl, w_lsub, w_mul, w_mull, w_lmul, t_div, t_divl, t_mod, t_modl, i_lt, i_ltl, i_llt, i_le, i_lel, i_lle, i_eq, i_eql, i_leq, Nat.zero_le, d_beq, d_bne, d_bytes, byte_at, Int.toNat_natCast, toNat_lit, decide_eq_true, decide_eq_false, if_pos, if_neg, slA_len, slA_idx, slA_cells, flat_slA, one_slA, cells_slA, map_mid, strV_is, hp_get1, hp_get2, hp_get3, hp_set1, hp_set2, hp_set3, hp_old, hp_sold, set_got, set_set, set_next, set_other, bytesL, bytes_all, List.length_map, aapp_nils, aapp_wr, List.flatMap_cons, List.flatMap_nil, Nat.mul_one]
    exact aret_u hs (h)
theorem thru_a {k : Nat} {l : List (List Int)} {at_ : Int} (hl : l.length ≤ 1000000) (h32 : ∀ r ∈ l, r.length = 3 ∧ ∀ x ∈ r, 0 ≤ x ∧ x ≤ 4294967295) (ha : 0 ≤ at_ ∧ at_ ≤ 4294967295) (h : K (.tup [.int .i64 (thruS l at_).1, .int .i64 (thruS l at_).2]) H) : (ACalls Tryz.prog) 80 [slA k 1 (l.map rowV), .int .i64 at_] H K := by
  refine acalls_go mo t80 (fun hs hu => ?_)
  unfold thruS at h
  simp only [c80, go_sem, Nat.reduceLeDiff, Nat.reduceAdd, Nat.reduceSub, Nat.reduceMul, Nat.reduceLT, Int.reduceLT, Int.reduceLE, Int.reduceAdd, Int.reduceSub, Int.reduceMul, Int.reduceToNat, Int.reduceNeg, Int.reduceEq, Nat.reducePow, Int.reducePow, Nat.reduceEqDiff, decide_true, decide_false, reduceIte, reduceCtorEq, Int.reduceBEq, Int.reduceBNe, bne_self_eq_false, Int.cast_ofNat_Int, Bool.not_true, Bool.not_false, IntKind.bits]
  refine indexR_a (p := inRow at_) (by omega) (fun r hr K hk => by
    obtain ⟨q1, q2⟩ := h32 r hr
    exact thru1_a (hp_get _ _ 0) q1 (getD_32 q2 0).1 ha (getD_32 q2 0).2 hk) ?_
  rcases ixA_find (inRow at_) [] l 0 with ⟨x1, x2⟩ | ⟨j, x1, x2, x3⟩
  · rw [x2] at h
    have h : K (.tup [.int .i64 0, .int .i64 2]) H := h
    rw [x1]
    refine stp0 ?_
    exact aret_u hs (h)
  · rw [x3] at h
    simp only at h
    rw [x1, Nat.zero_add]
    have hj := row_at x2
    obtain ⟨q1, q2⟩ := h32 _ (memD (d := []) x2)
    have hin : inRow at_ (l.getD j []) = true := List.find?_some x3
    generalize l.getD j [] = r at *
    have g0 := rowG (r := r) (i := 0) (by omega)
    have g1 := rowG (r := r) (i := 1) (by omega)
    have b0 := getD_32 q2 0
    have b1 := getD_32 q2 1
    unfold inRow at hin
    simp only [Bool.and_eq_true, decide_eq_true_eq] at hin
    generalize r.getD 0 0 = r0 at *
    generalize r.getD 1 0 = r1 at *
    have w1 : IntKind.wrap .i64 (r1 + at_) = r1 + at_ := wi64 (by omega) (by omega)
    have w2 : IntKind.wrap .i64 (r1 + at_ - r0) = r1 + at_ - r0 := wi64 (by omega) (by omega)
    have hj0 : ¬ ((j : Int) < 0) := by omega
    simp (maxSteps := 4000000) (disch := (first | omega | (simp only [set_next, List.length_append, List.length_cons, List.length_nil, List.length_take, List.length_drop, List.length_map, List.length_set, List.length_replicate]; omega) | (simp only [set_next, ne_eq, reduceCtorEq, not_false_eq_true]))) only [hj, rowV_cells, g0, g1, w1, w2, hj0, go_sem, Nat.reduceLeDiff, Nat.reduceAdd, Nat.reduceSub, Nat.reduceMul, Nat.reduceLT, Int.reduceLT, Int.reduceLE, Int.reduceAdd, Int.reduceSub, Int.reduceMul, Int.reduceToNat, Int.reduceNeg, Int.reduceEq, Nat.reducePow, Int.reducePow, Nat.reduceEqDiff, decide_true, decide_false, reduceIte, reduceCtorEq, Int.reduceBEq, Int.reduceBNe, bne_self_eq_false, Int.cast_ofNat_Int, Bool.not_true, Bool.not_false, IntKind.bits, w_nat, w_lit, w_add, w_addl, w_ladd, w_sub, w_subl, w_lsub, w_mul, w_mull, w_lmul, t_div, t_divl, t_mod, t_modl, i_lt, i_ltl, i_llt, i_le, i_lel, i_lle, i_eq, i_eql, i_leq, Nat.zero_le, d_beq, d_bne, d_bytes, byte_at, Int.toNat_natCast, toNat_lit, decide_eq_true, decide_eq_false, if_pos, if_neg, slA_len, slA_idx, slA_cells, flat_slA, one_slA, cells_slA, map_mid, strV_is, hp_get1, hp_get2, hp_get3, hp_set1, hp_set2, hp_set3, hp_old, hp_sold, set_got, set_set, set_next, set_other, bytesL, bytes_all, List.length_map, aapp_nils, aapp_wr, List.flatMap_cons, List.flatMap_nil, Nat.mul_one]
    rw [show AV.imm 1 [AV.int .i64 (r1 + at_ - r0)] = slA 2 1 ([r1 + at_ - r0].map (AV.int .i64)) from rfl]
    refine within_a (by simp) ?_
    rw [show List.all [r1 + at_ - r0] in32 = in32 (r1 + at_ - r0) by simp]
    by_cases hz : in32 (r1 + at_ - r0) = true
    · rw [if_pos hz] at h
      rw [hz]
      refine stp0 ?_
      exact aret_u hs (h)
    · rw [if_neg hz] at h
      rw [Bool.not_eq_true] at hz
      rw [hz]
      refine stp0 ?_
      exact aret_u hs (h)
end
end Go.Proofs.YtmdgjfadbhenjaaGreatDoor.AL
