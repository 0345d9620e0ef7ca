/- Trees told: what the document makes of kids, and of a node. -/
import Derived.Test.YtdknpnmdjjmapaaDoorQEditIsALPat2
import Derived.Test.YtdknpnmdjjmapaaDoorQEditIsALA3
import Derived.Test.YtdknpnmdjjmapaaDoorProg
import Derived.KernelRfl
set_option linter.unusedSimpArgs false
set_option linter.unusedVariables false
set_option maxRecDepth 100000
set_option maxHeartbeats 16000000
namespace Go.Proofs.YtdknpnmdjjmapaaDoor.AL
open Go Go.Proofs
attribute [local go_sem] go_seq go_skip go_region go_regionN go_fregion rgF_some go_cond go_block go_exit go_ret nxt_nil nxt_code nxt_blk nxt_cut leave_nil leave_code leave_cut leave_blk rtn_nil rtn_code rtn_blk rtn_cut cnd_t cnd_f rgn_nil rgY_some rgY_none rgH_some rgP_some retTo_is rgV_func grd_und grd_tt grd_ff grd_tf grd_ft rgn_q rgn_alloc rgn_box rgn_store rgn_lit rgn_litw litCells_nil litCells_cons rgn_app rgn_copy rgn_mk rgn_s2b rgn_call rgn_callv rgn_stop rgn_slice3 aslice3 rgn_slice3l aslice3l rgn_appz rgn_clear rgn_range rgn_next arange acap rgn_put rgn_mkmap rgn_lookup rgn_mapup alookup_nilm alookup_map amapup_map afound_ok afound_no rgn_c rgn_cv qclV_func aloadr rgn_guard post_ret post_normal retY_some ares aresL ares1 AX.ev aput List.getD_cons_zero List.getD_cons_succ List.set_cons_zero List.set_cons_succ List.map_cons List.map_nil aq abin aint astr abeq aconv asame aextract alenS alenL_nils alenL_emp alenL_imm alenL_wr alenL_wc aun apart aload afieldAddr afield aidxSl_wr aidxSl_wc aidxSl_imm aidxPt aidxStr aidxArr abound asliceStr asliceSl asliceArr abest anonil afill astore acells_nils acells_emp acells_imm acells_wr acells_wc acells_str acopy litAll amk as2b anil nilOf aseq aeqs aeqv fits fit1 hp_next hp_push hp_get hp_set List.length_cons List.length_nil List.getElem?_cons_zero List.getElem?_cons_succ List.cons_append List.nil_append List.append_nil List.take_succ_cons List.take_zero List.drop_succ_cons List.drop_zero List.all_cons List.all_nil Option.map_some Option.some.injEq Bool.and_true Bool.true_and Bool.false_eq_true if_true if_false ite_true ite_false Bool.and_self true_and and_true and_self Nat.zero_add Nat.le_refl Int.toNat_natCast beq_self_eq_true eq_self tops_zero tops_succ Int.natCast_nonneg List.take_nil List.drop_nil Option.map_none flat_bool one_bool cells_bool flat_int one_int cells_int flat_str one_str cells_str flat_nilp one_nilp cells_nilp flat_ptr one_ptr cells_ptr flat_nils one_nils cells_nils flat_imm one_imm cells_imm flat_wr one_wr cells_wr flat_wc one_wc cells_wc flat_func one_func cells_func flat_nilf one_nilf cells_nilf flat_map one_map cells_map flat_nilm one_nilm cells_nilm flat_iface one_iface cells_iface flat_nili one_nili cells_nili flat_rd one_rd cells_rd flat_emp one_emp cells_emp flat_byteV one_byteV cells_byteV flat_agg cells_agg one_agg B_size B_list B_ext B_toList B_app List.take_length Int.le_refl
theorem tr_one (s : Tr) : (([s].map Tr.V).flatMap AV.cells).all AV.one = true := by
  rw [List.map_cons, List.map_nil, List.flatMap_cons, List.flatMap_nil, List.append_nil, Tr.V_cells]
  rcases slA_cases s.kp 2 (s.props.map propV) with ⟨h, _⟩ | ⟨h, _⟩ | h <;> rcases slA_cases s.kk 3 (s.kids.map Tr.V) with ⟨h2, _⟩ | ⟨h2, _⟩ | h2 <;> rw [h, h2] <;> rfl
theorem trs_one (l : List Tr) : ((l.map Tr.V).flatMap AV.cells).all AV.one = true := by
  rw [List.all_eq_true]
  intro x hx
  obtain ⟨y, hy, hx⟩ := List.mem_flatMap.1 hx
  obtain ⟨s, _, rfl⟩ := List.mem_map.1 hy
  have := tr_one s
  rw [List.map_cons, List.map_nil, List.flatMap_cons, List.flatMap_nil, List.append_nil, List.all_eq_true] at this
  exact this x hx
theorem trs_u (n : Nat) (l : List Tr) : AllC n (l.map Tr.V) := by
  rw [← Tr.Vs_is]
  exact Tr.csu n l
def nmB (nm : List UInt8) (k : Tr) : Bool := decide (k.name = nm)
def CutI (nm : List UInt8) (l out : List Tr) (b : Bool) (i : Nat) : Prop :=
  (b = true → cutF (nmB nm) l = some (out ++ l.drop i)) ∧ (b = false → cutF (nmB nm) l = (cutF (nmB nm) (l.drop i)).map (out ++ ·))
section
variable {H : AHeap} {K : AV → AHeap → Prop}
theorem rwithout_a {k : Nat} {nm : List UInt8} {l r : List Tr} (hl : l.length ≤ 1000000) (hr : cutF (nmB nm) l = some r)
    (h : ∀ k, K (slA k 3 (r.map Tr.V)) H) : (ACalls Tryd.prog) 81 [slA k 3 (l.map Tr.V), .str (B nm)] H K := by
  refine acalls_go mo t81 (fun hs hu => ?_)
  simp only [c81, go_sem, Nat.reduceLeDiff, Nat.reduceAdd, Nat.reduceSub, Nat.reduceMul, Nat.reduceLT, Int.reduceLT, Int.reduceLE, Int.reduceAdd, Int.reduceSub, Int.reduceMul, Int.reduceToNat, Int.reduceNeg, Int.reduceEq, Nat.reducePow, Int.reducePow, Nat.reduceEqDiff, decide_true, decide_false, reduceIte, reduceCtorEq, Int.reduceBEq, Int.reduceBNe, bne_self_eq_false, Int.cast_ofNat_Int, Bool.not_true, Bool.not_false, IntKind.bits]
  refine go_loopS mono (σ := AHeap × AV × List Tr × Bool × Nat) (fun z => [(5, z.2.1), (6, .bool z.2.2.2.1), (7, .int .i64 (z.2.2.2.2 : Int))]) (fun z => hp z.1 []) (fun z => SlAt H.next z.1 25 3 z.2.1 (z.2.2.1.map Tr.V) ∧ Past H z.1 ∧ z.2.2.2.2 ≤ l.length ∧ z.2.2.1.length ≤ z.2.2.2.2 ∧ CutI nm l z.2.2.1 z.2.2.2.1 z.2.2.2.2) (fun z => l.length - z.2.2.2.2) (H, .nils, [], false, 0) ?_ rfl ⟨slat_nil, past_refl, Nat.zero_le _, Nat.zero_le _, ⟨fun q => (by cases q), fun _ => by
      show cutF (nmB nm) l = (cutF (nmB nm) l).map (fun x => x)
      simp⟩⟩ (fun z hz J hJ => ?_)
  · exact fgt
  obtain ⟨G, v2, out, b, i⟩ := z
  obtain ⟨hv2, hG, hil, hol, hI⟩ := hz
  simp only at hv2 hG hil hol hI
  simp only [blurR_nil, blurR_some, blurR_none, blurC_region, blurC_regionN, blurC_fregion, blurT_nil, blurT_cons, blurC_seq, blurC_both, blurC_cond, blurC_block, blurC_loop, blurC_skip, blurC_exit, blurC_ret, tellS_nil, tellS_cons, List.set_cons_zero, List.set_cons_succ, tops_zero, tops_succ]
  by_cases h1 : i < l.length
  · have ha := tr_at h1
    have hJ2 := fun (G2 : AHeap) (v3 : AV) (o2 : List Tr) (b2 : Bool) p1 p2 p4 p5 a' => hJ (G2, v3, o2, b2, i + 1) a' ⟨p1, p2, h1, p4, p5⟩ (by show l.length - (i + 1) < l.length - i; omega)
    clear hJ
    have hd : l.drop i = l.getD i tr0 :: l.drop (i + 1) := by
      rw [List.drop_eq_getElem_cons h1, List.getD_eq_getElem?_getD, List.getElem?_eq_getElem h1]
      rfl
    unfold CutI at hI hJ2
    rw [hd, cutF] at hI
    generalize l.getD i tr0 = x at *
    have hVc := Tr.V_cells x
    have hVi := Tr.V_is x
    obtain ⟨v3, G3, q1, q2, q3⟩ := slat_app (b := 64) (ys := [x].map Tr.V) (slat_hp hv2 []) (by rw [hp_nil]; exact hG.next) (trs_len _) (tr_one x) (by simp only [List.length_map, List.length_cons, List.length_nil]; omega)
    rw [← List.map_append] at q2
    rw [List.map_cons, List.map_nil, hVi] at q1
    have hlen2 : (out ++ [x]).length ≤ i + 1 := by rw [List.length_append, List.length_singleton]; omega
    cases b with
    | true =>
      have I1 := hI.1 rfl
      refine stp (And.intro ha (And.intro hVc q1)) ?_
      exact hJ2 G3 v3 (out ++ [x]) true q2 (beside_past q3 (Nat.le_refl _) (past_hp hG _)) hlen2 ⟨fun _ => by rw [List.append_assoc]; exact I1, fun q => (by cases q)⟩ _ fgt
    | false =>
      have I1 := hI.2 rfl
      by_cases h2 : x.name = nm
      · rw [if_pos (show nmB nm x = true from decide_eq_true h2)] at I1
        refine stp (And.intro ha (And.intro hVc h2)) ?_
        exact hJ2 G v2 out true hv2 hG (by show out.length ≤ i + 1; omega) ⟨fun _ => I1, fun q => (by cases q)⟩ _ fgt
      · rw [if_neg (show ¬ nmB nm x = true from by unfold nmB; rw [decide_eq_false h2]; exact Bool.false_ne_true)] at I1
        refine stp (And.intro ha (And.intro hVc (And.intro h2 q1))) ?_
        exact hJ2 G3 v3 (out ++ [x]) false q2 (beside_past q3 (Nat.le_refl _) (past_hp hG _)) hlen2 ⟨fun q => (by cases q), fun _ => by
          rw [I1, Option.map_map]
          congr 1
          funext y
          show out ++ x :: y = (out ++ [x]) ++ y
          rw [List.append_assoc]
          rfl⟩ _ fgt
  · unfold CutI at hI
    rw [List.drop_of_length_le (by omega), cutF, List.append_nil] at hI
    cases b with
    | true =>
      have I1 := hI.1 rfl
      rw [hr] at I1
      obtain rfl := Option.some.inj I1
      refine stp0 ?_
      exact slat_ret (slat_hp hv2 []) (trs_len _) (past_hp hG []) hs (trs_u _ _) h
    | false =>
      have I1 := hI.2 rfl
      rw [hr] at I1
      cases I1
end
theorem kidT_has (t : Tr) (nm : List UInt8) : (kidT t nm).isSome = hasK nm t.kids := by
  unfold kidT hasK
  rw [Bool.eq_iff_iff]
  simp [List.find?_isSome, nameIs]
theorem Tr.mk_V (n : List UInt8) (kp : Nat) (ps : List (List UInt8 × List UInt8)) (kk : Nat) (ks : List Tr) : (Tr.mk n kp ps kk ks).V = .agg [.str (B n), slA kp 2 (ps.map propV), slA kk 3 (ks.map Tr.V)] := Tr.V_is _
section
variable {H : AHeap} {K : AV → AHeap → Prop}
theorem rhere1_a {t : Tr} {nm v : List UInt8} (ho : TrOk t) (hpl : t.props.length ≤ 1000000) (hn : nm.length ≤ 1000)
    (h : ∀ t' : Tr, ((setF nm v t).2 = 0 → t'.strip = (setF nm v t).1.strip) → ((setF nm v t).2 ≠ 0 → t' = tr0) → K (.tup [t'.V, .int .i64 (setF nm v t).2]) H) :
    (ACalls Tryd.prog) 66 [t.V, .agg [.int .i64 1, .str (B nm), .str (B v)]] H K := by
  refine acalls_go mo t66 (fun hs hu => ?_)
  have hVi := Tr.V_is t
  unfold setF at h
  simp only [c66, Tr.V_is, go_sem, Nat.reduceLeDiff, Nat.reduceAdd, Nat.reduceSub, Nat.reduceMul, Nat.reduceLT, Int.reduceLT, Int.reduceLE, Int.reduceAdd, Int.reduceSub, Int.reduceMul, Int.reduceToNat, Int.reduceNeg, Int.reduceEq, Nat.reducePow, Int.reducePow, Nat.reduceEqDiff, decide_true, decide_false, reduceIte, reduceCtorEq, Int.reduceBEq, Int.reduceBNe, bne_self_eq_false, Int.cast_ofNat_Int, Bool.not_true, Bool.not_false, IntKind.bits]
  rw [← hVi]
  refine kid_a ho ?_
  rw [foundV_is]
  generalize (kidT t nm).getD tr0 = kd
  generalize (kidT t nm).isSome = kb
  refine stp0 ?_
  refine rmay_a (by omega) ?_
  cases hm : mayL nm with
  | false =>
    rw [hm, if_neg Bool.false_ne_true] at h
    have hx := h tr0 (fun e => absurd (show (1 : Int) = 0 from e) (by decide)) (fun _ => rfl)
    rw [tr0_V] at hx
    refine stp0 ?_
    exact aret_plain hs (by simp only [u_top, u_bool, u_int, u_str, u_nilp, u_nils, u_nilf, u_nilm, u_nili, u_emp, u_byteV, u_ptr, u_wr, u_wc, u_agg, u_tup, u_rd, u_imm, u_func, u_nil, u_cons, u_app, uc_nil, uc_cons, uc_app, u_bytes, uc_bytes, u_ints, uc_ints, cells_bool, cells_int, cells_str, cells_agg, cells_ptr, cells_nils, cells_imm, cells_wr, cells_wc, cells_nilp, cells_nilf, cells_nilm, cells_rd, cells_emp, cells_byteV, cells_func, and_self, and_true, true_and, u_slA, uc_strs, cells_slA, strV_is]) hx
  | true =>
    rw [hm, if_pos rfl] at h
    refine stp0 ?_
    refine rprops_a (two := false) rfl hpl (fun k => ?_)
    rw [if_neg Bool.false_ne_true]
    have hx := h (.mk t.name k (setPr nm v t.props) t.kk t.kids) (fun _ => by rw [Tr.strip_is, Tr.strip_is]) (fun q => absurd rfl q)
    rw [Tr.mk_V] at hx
    generalize (prF false nm v t.props).2 = pb
    generalize setPr nm v t.props = ps' at *
    have hpu := props_u H.next ps'
    have hku := kids_u H.next t
    refine stp0 ?_
    refine aret_plain hs ?_ hx
    simp only [u_tup, u_agg, u_cons, u_nil, u_str, u_int, u_slA, and_true, true_and]
    exact ⟨hpu, hku⟩
theorem rhere2_a {t : Tr} {nm v : List UInt8} (ho : TrOk t) (hpl : t.props.length ≤ 1000000)
    (h : ∀ t' : Tr, ((unsetF nm t).2 = 0 → t'.strip = (unsetF nm t).1.strip) → ((unsetF nm t).2 ≠ 0 → t' = tr0) → K (.tup [t'.V, .int .i64 (unsetF nm t).2]) H) :
    (ACalls Tryd.prog) 66 [t.V, .agg [.int .i64 2, .str (B nm), .str (B v)]] H K := by
  refine acalls_go mo t66 (fun hs hu => ?_)
  have hVi := Tr.V_is t
  unfold unsetF at h
  rw [prF_cut nm v] at h
  simp only [c66, Tr.V_is, go_sem, Nat.reduceLeDiff, Nat.reduceAdd, Nat.reduceSub, Nat.reduceMul, Nat.reduceLT, Int.reduceLT, Int.reduceLE, Int.reduceAdd, Int.reduceSub, Int.reduceMul, Int.reduceToNat, Int.reduceNeg, Int.reduceEq, Nat.reducePow, Int.reducePow, Nat.reduceEqDiff, decide_true, decide_false, reduceIte, reduceCtorEq, Int.reduceBEq, Int.reduceBNe, bne_self_eq_false, Int.cast_ofNat_Int, Bool.not_true, Bool.not_false, IntKind.bits]
  rw [← hVi]
  refine kid_a ho ?_
  rw [foundV_is]
  generalize (kidT t nm).getD tr0 = kd
  generalize (kidT t nm).isSome = kb
  refine stp0 ?_
  refine rprops_a (two := true) rfl hpl (fun k => ?_)
  rw [if_pos rfl]
  cases hb : (prF true nm v t.props).2 with
  | false =>
    rw [hb, if_neg Bool.false_ne_true] at h
    have hx := h tr0 (fun e => absurd (show (8 : Int) = 0 from e) (by decide)) (fun _ => rfl)
    rw [tr0_V] at hx
    refine stp0 ?_
    exact aret_plain hs (by simp only [u_top, u_bool, u_int, u_str, u_nilp, u_nils, u_nilf, u_nilm, u_nili, u_emp, u_byteV, u_ptr, u_wr, u_wc, u_agg, u_tup, u_rd, u_imm, u_func, u_nil, u_cons, u_app, uc_nil, uc_cons, uc_app, u_bytes, uc_bytes, u_ints, uc_ints, cells_bool, cells_int, cells_str, cells_agg, cells_ptr, cells_nils, cells_imm, cells_wr, cells_wc, cells_nilp, cells_nilf, cells_nilm, cells_rd, cells_emp, cells_byteV, cells_func, and_self, and_true, true_and, u_slA, uc_strs, cells_slA, strV_is]) hx
  | true =>
    rw [hb, if_pos rfl] at h
    have hx := h (.mk t.name k (prF true nm v t.props).1 t.kk t.kids) (fun _ => by rw [Tr.strip_is, Tr.strip_is]) (fun q => absurd rfl q)
    rw [Tr.mk_V] at hx
    generalize (prF true nm v t.props).1 = ps' at *
    have hpu := props_u H.next ps'
    have hku := kids_u H.next t
    refine stp0 ?_
    refine aret_plain hs ?_ hx
    simp only [u_tup, u_agg, u_cons, u_nil, u_str, u_int, u_slA, and_true, true_and]
    exact ⟨hpu, hku⟩
theorem rhere4_a {t : Tr} {nm v : List UInt8} (ho : TrOk t) (hkl : t.kids.length ≤ 1000000)
    (h : ∀ t' : Tr, ((dropF nm t).2 = 0 → t'.strip = (dropF nm t).1.strip) → ((dropF nm t).2 ≠ 0 → t' = tr0) → K (.tup [t'.V, .int .i64 (dropF nm t).2]) H) :
    (ACalls Tryd.prog) 66 [t.V, .agg [.int .i64 4, .str (B nm), .str (B v)]] H K := by
  refine acalls_go mo t66 (fun hs hu => ?_)
  have hVi := Tr.V_is t
  unfold dropF at h
  have hiff : (kidT t nm).isSome = (cutF (nmB nm) t.kids).isSome := by
    rw [kidT_has]
    unfold hasK
    rw [show (t.kids.any fun k => decide (k.name = nm)) = t.kids.any (nmB nm) from rfl]
    rcases cutF_at (nmB nm) t.kids 0 with ⟨h1, h2⟩ | ⟨j, h1, h2, h3⟩
    · rw [h2, ← ixOf_any (nmB nm) t.kids 0, h1]
      rfl
    · rw [h3]
      have := ixOf_any (nmB nm) t.kids 0
      rw [h1] at this
      rw [← this, decide_eq_true (by omega)]
      rfl
  rw [show (fun k : Tr => decide (k.name = nm)) = nmB nm from rfl] at h
  simp only [c66, Tr.V_is, go_sem, Nat.reduceLeDiff, Nat.reduceAdd, Nat.reduceSub, Nat.reduceMul, Nat.reduceLT, Int.reduceLT, Int.reduceLE, Int.reduceAdd, Int.reduceSub, Int.reduceMul, Int.reduceToNat, Int.reduceNeg, Int.reduceEq, Nat.reducePow, Int.reducePow, Nat.reduceEqDiff, decide_true, decide_false, reduceIte, reduceCtorEq, Int.reduceBEq, Int.reduceBNe, bne_self_eq_false, Int.cast_ofNat_Int, Bool.not_true, Bool.not_false, IntKind.bits]
  rw [← hVi]
  refine kid_a ho ?_
  rw [foundV_is]
  generalize (kidT t nm).getD tr0 = kd
  rw [hiff]
  cases hc : cutF (nmB nm) t.kids with
  | none =>
    rw [hc] at h
    have hx := h tr0 (fun e => absurd (show (8 : Int) = 0 from e) (by decide)) (fun _ => rfl)
    rw [tr0_V] at hx
    have hn : (none : Option (List Tr)).isSome = false := rfl
    refine stp hn ?_
    exact aret_plain hs (by simp only [u_top, u_bool, u_int, u_str, u_nilp, u_nils, u_nilf, u_nilm, u_nili, u_emp, u_byteV, u_ptr, u_wr, u_wc, u_agg, u_tup, u_rd, u_imm, u_func, u_nil, u_cons, u_app, uc_nil, uc_cons, uc_app, u_bytes, uc_bytes, u_ints, uc_ints, cells_bool, cells_int, cells_str, cells_agg, cells_ptr, cells_nils, cells_imm, cells_wr, cells_wc, cells_nilp, cells_nilf, cells_nilm, cells_rd, cells_emp, cells_byteV, cells_func, and_self, and_true, true_and, u_slA, uc_strs, cells_slA, strV_is]) hx
  | some ks' =>
    rw [hc] at h
    have hn : (some ks').isSome = true := rfl
    refine stp hn ?_
    refine rwithout_a hkl hc (fun k => ?_)
    have hx := h (.mk t.name t.kp t.props k ks') (fun _ => by rw [Tr.strip_is, Tr.strip_is]) (fun q => absurd rfl q)
    rw [Tr.mk_V] at hx
    have hpu := props_u H.next t.props
    have hku := trs_u H.next ks'
    refine stp0 ?_
    refine aret_plain hs ?_ hx
    simp only [u_tup, u_agg, u_cons, u_nil, u_str, u_int, u_slA, and_true, true_and]
    exact ⟨hpu, hku⟩
theorem rhere3_a {t : Tr} {nm v : List UInt8} (ho : TrOk t) (hkl : t.kids.length ≤ 1000000) (hn : nm.length ≤ 1000)
    (h : ∀ t' : Tr, ((addF nm t).2 = 0 → t'.strip = (addF nm t).1.strip) → ((addF nm t).2 ≠ 0 → t' = tr0) → K (.tup [t'.V, .int .i64 (addF nm t).2]) H) :
    (ACalls Tryd.prog) 66 [t.V, .agg [.int .i64 3, .str (B nm), .str (B v)]] H K := by
  refine acalls_go mo t66 (fun hs hu => ?_)
  have hVi := Tr.V_is t
  unfold addF at h
  simp only [c66, Tr.V_is, go_sem, Nat.reduceLeDiff, Nat.reduceAdd, Nat.reduceSub, Nat.reduceMul, Nat.reduceLT, Int.reduceLT, Int.reduceLE, Int.reduceAdd, Int.reduceSub, Int.reduceMul, Int.reduceToNat, Int.reduceNeg, Int.reduceEq, Nat.reducePow, Int.reducePow, Nat.reduceEqDiff, decide_true, decide_false, reduceIte, reduceCtorEq, Int.reduceBEq, Int.reduceBNe, bne_self_eq_false, Int.cast_ofNat_Int, Bool.not_true, Bool.not_false, IntKind.bits]
  rw [← hVi]
  refine kid_a ho ?_
  rw [foundV_is]
  generalize (kidT t nm).getD tr0 = kd
  rw [kidT_has]
  refine stp0 ?_
  refine rMayKid_a (by omega) ?_
  cases hm : mayK nm with
  | false =>
    rw [hm, if_neg Bool.false_ne_true] at h
    have hx := h tr0 (fun e => absurd (show (1 : Int) = 0 from e) (by decide)) (fun _ => rfl)
    rw [tr0_V] at hx
    refine stp0 ?_
    exact aret_plain hs (by simp only [u_top, u_bool, u_int, u_str, u_nilp, u_nils, u_nilf, u_nilm, u_nili, u_emp, u_byteV, u_ptr, u_wr, u_wc, u_agg, u_tup, u_rd, u_imm, u_func, u_nil, u_cons, u_app, uc_nil, uc_cons, uc_app, u_bytes, uc_bytes, u_ints, uc_ints, cells_bool, cells_int, cells_str, cells_agg, cells_ptr, cells_nils, cells_imm, cells_wr, cells_wc, cells_nilp, cells_nilf, cells_nilm, cells_rd, cells_emp, cells_byteV, cells_func, and_self, and_true, true_and, u_slA, uc_strs, cells_slA, strV_is]) hx
  | true =>
    rw [hm, if_pos rfl] at h
    cases hh : hasK nm t.kids with
    | true =>
      rw [hh, if_pos rfl] at h
      have hx := h tr0 (fun e => absurd (show (12 : Int) = 0 from e) (by decide)) (fun _ => rfl)
      rw [tr0_V] at hx
      refine stp0 ?_
      exact aret_plain hs (by simp only [u_top, u_bool, u_int, u_str, u_nilp, u_nils, u_nilf, u_nilm, u_nili, u_emp, u_byteV, u_ptr, u_wr, u_wc, u_agg, u_tup, u_rd, u_imm, u_func, u_nil, u_cons, u_app, uc_nil, uc_cons, uc_app, u_bytes, uc_bytes, u_ints, uc_ints, cells_bool, cells_int, cells_str, cells_agg, cells_ptr, cells_nils, cells_imm, cells_wr, cells_wc, cells_nilp, cells_nilf, cells_nilm, cells_rd, cells_emp, cells_byteV, cells_func, and_self, and_true, true_and, u_slA, uc_strs, cells_slA, strV_is]) hx
    | false =>
      rw [hh, if_neg Bool.false_ne_true] at h
      have ho1 := trs_one t.kids
      have hfin : ∀ (G2 : AHeap) (v3 : AV), SlAt H.next G2 25 3 v3 ((t.kids ++ [Tr.mk nm 0 [] 0 []]).map Tr.V) → Past H G2 → ARet H.next K (.tup [.agg [.str (B t.name), slA t.kp 2 (t.props.map propV), v3], .int .i64 0]) G2 := fun G2 v3 p1 p2 => by
        obtain ⟨G4, k4, s1, s2⟩ := slat_shut p1 (trs_len _)
        have hx := h (.mk t.name t.kp t.props k4 (t.kids ++ [Tr.mk nm 0 [] 0 []])) (fun _ => by rw [Tr.strip_is, Tr.strip_is]) (fun q => absurd rfl q)
        rw [Tr.mk_V] at hx
        refine aret_shut (.tup _ _ [] [.int .i64 0] _ _ (.agg _ _ [.str (B t.name), slA t.kp 2 (t.props.map propV)] [] _ _ s1)) (s2 H (Nat.le_refl _) p2) hs ?_ hx
        have hpu := props_u H.next t.props
        have hku := trs_u H.next (t.kids ++ [Tr.mk nm 0 [] 0 []])
        simp only [List.nil_append, List.cons_append, u_tup, u_agg, u_cons, u_nil, u_str, u_int, u_slA, and_true, true_and]
        exact ⟨hpu, hku⟩
      by_cases h0 : t.kids.length = 0
      · have hk0 := List.length_eq_zero_iff.1 h0
        refine stp (And.intro h0 ho1) ?_
        refine hfin _ _ ?_ (past_hp past_refl _)
        rw [hk0]
        exact .inr ⟨H.next + 4, 0, rfl, by omega, hp_get _ _ 4⟩
      · obtain ⟨v3, G3, q1, q2, q3⟩ := slat_app (n0 := H.next + 4) (G := hp H [.row 25 0 [.str (B t.name), slA t.kp 2 (t.props.map propV), slA t.kk 3 (t.kids.map Tr.V)], .row 27 0 [.int .i64 3, .str (B nm), .str (B v)], .row 25 0 [.str (B []), .nils, .nils], .row 25 0 [.str (B kd.name), slA kd.kp 2 (kd.props.map propV), slA kd.kk 3 (kd.kids.map Tr.V)], .row 25 0 ((t.kids.map Tr.V).flatMap AV.cells)]) (v := .wr (H.next + 4) 0 0 t.kids.length 3) (b := 64) (xs := t.kids.map Tr.V) (ys := [Tr.mk nm 0 [] 0 []].map Tr.V) (.inr ⟨H.next + 4, 0, by rw [List.length_map], Nat.le_refl _, hp_get _ _ 4⟩) (by show H.next + 4 ≤ H.next + 5; omega) (trs_len _) (tr_one _) (by simp only [List.length_map, List.length_cons, List.length_nil]; omega)
        rw [← List.map_append] at q2
        rw [List.map_cons, List.map_nil, Tr.mk_V] at q1
        have q1 : aapp 25 3 64 (hp H [.row 25 0 [.str (B t.name), slA t.kp 2 (t.props.map propV), slA t.kk 3 (t.kids.map Tr.V)], .row 27 0 [.int .i64 3, .str (B nm), .str (B v)], .row 25 0 [.str (B []), .nils, .nils], .row 25 0 [.str (B kd.name), slA kd.kp 2 (kd.props.map propV), slA kd.kk 3 (kd.kids.map Tr.V)], .row 25 0 ((t.kids.map Tr.V).flatMap AV.cells)]) (.wr (H.next + 4) 0 0 t.kids.length 3) (.imm 3 [.agg [.str (B nm), .nils, .nils]]) = some (v3, hp G3 []) := q1
        have hne : ∀ j, j < 4 → ∀ gen off len sz, AV.wr (H.next + 4) 0 0 t.kids.length 3 ≠ .wr (H.next + j) gen off len sz := fun j hj gen off len sz e => by
          injection e
          omega
        have g0 := q3.other (H.next + 0) _ (hp_get _ _ 0) (hne 0 (by omega))
        have g2 := q3.other (H.next + 2) _ (hp_get _ _ 2) (hne 2 (by omega))
        have l0 := G3.lt g0
        have l2 := G3.lt g2
        obtain ⟨y1, y2, y3, y4⟩ := slat_one2 q2
        have hP := beside_past q3 (show H.next ≤ H.next + 4 by omega) (past_hp past_refl _)
        have hri : ∀ i ∈ rowId v3, i ≠ H.next + 0 ∧ i ≠ H.next + 2 := fun i hi => by
          have := (rowId_lt q2 hi).2
          omega
        simp (maxSteps := 4000000) (disch := (first | omega | (simp only [set_next, List.length_append, List.length_cons, List.length_nil, List.length_take, List.length_drop, List.length_map, List.length_set, List.length_replicate]; omega) | (simp only [set_next, ne_eq, reduceCtorEq, not_false_eq_true]))) only [h0, ho1, q1, g0, g2, y1, y2, y3, go_sem, Nat.reduceLeDiff, Nat.reduceAdd, Nat.reduceSub, Nat.reduceMul, Nat.reduceLT, Int.reduceLT, Int.reduceLE, Int.reduceAdd, Int.reduceSub, Int.reduceMul, Int.reduceToNat, Int.reduceNeg, Int.reduceEq, Nat.reducePow, Int.reducePow, Nat.reduceEqDiff, decide_true, decide_false, reduceIte, reduceCtorEq, Int.reduceBEq, Int.reduceBNe, bne_self_eq_false, Int.cast_ofNat_Int, Bool.not_true, Bool.not_false, IntKind.bits, w_nat, w_lit, w_add, w_addl, w_ladd, w_sub, w_subl, w_lsub, w_mul, w_mull, w_lmul, t_div, t_divl, t_mod, t_modl, i_lt, i_ltl, i_llt, i_le, i_lel, i_lle, i_eq, i_eql, i_leq, Nat.zero_le, d_beq, d_bne, d_bytes, byte_at, Int.toNat_natCast, toNat_lit, decide_eq_true, decide_eq_false, if_pos, if_neg, slA_len, slA_idx, slA_cells, flat_slA, one_slA, cells_slA, map_mid, strV_is, hp_get1, hp_get2, hp_get3, hp_set1, hp_set2, hp_set3, hp_old, hp_sold, set_got, set_set, set_next, set_other, bytesL, bytes_all, List.length_map, aapp_nils, aapp_wr, List.flatMap_cons, List.flatMap_nil, Nat.mul_one]
        rw [hp_nil]
        exact hfin _ _ (slat_same (slat_low q2 (by omega)) (fun i hi => (set_other (hri i hi).2).trans (set_other (hri i hi).1))) (past_set (past_set hP (by omega) _) (by omega) _)
end
def chV (kind : Int) (nm v : List UInt8) : AV := .agg [.int .i64 kind, .str (B nm), .str (B v)]
theorem chV_is (kind : Int) (nm v : List UInt8) : chV kind nm v = .agg [.int .i64 kind, .str (B nm), .str (B v)] := rfl
/-- What a change gives: the tree, alike, or none. -/
def Gives (r : Tr × Int) (t' : Tr) : Prop := (r.2 = 0 → t'.strip = r.1.strip) ∧ (r.2 ≠ 0 → t' = tr0)
def DocOk (kind : Int) (nm v : List UInt8) (f : Tr → Tr × Int) : Prop :=
  ∀ (t : Tr) (H : AHeap) (K : AV → AHeap → Prop), TrM 1000000 t → (∀ t' : Tr, Gives (f t) t' → K (.tup [t'.V, .int .i64 (f t).2]) H) → (ACalls Tryd.prog) 66 [t.V, chV kind nm v] H K
theorem doc1 {nm v : List UInt8} (hn : nm.length ≤ 1000) : DocOk 1 nm v (setF nm v) := fun t H K hm h => rhere1_a (trm_ok (Nat.le_refl _) hm) hm.p hn (fun t' h1 h2 => h t' ⟨h1, h2⟩)
theorem doc2 {nm v : List UInt8} : DocOk 2 nm v (unsetF nm) := fun t H K hm h => rhere2_a (trm_ok (Nat.le_refl _) hm) hm.p (fun t' h1 h2 => h t' ⟨h1, h2⟩)
theorem doc3 {nm v : List UInt8} (hn : nm.length ≤ 1000) : DocOk 3 nm v (addF nm) := fun t H K hm h => rhere3_a (trm_ok (Nat.le_refl _) hm) hm.k hn (fun t' h1 h2 => h t' ⟨h1, h2⟩)
theorem doc4 {nm v : List UInt8} : DocOk 4 nm v (dropF nm) := fun t H K hm h => rhere4_a (trm_ok (Nat.le_refl _) hm) hm.k (fun t' h1 h2 => h t' ⟨h1, h2⟩)
def RepI (nm : List UInt8) (g : Tr → Tr × Int) (l out : List Tr) (b : Bool) (i : Nat) : Prop :=
  (b = true → ∃ ou : List Tr, repl nm g l = some (ou ++ l.drop i, 0) ∧ out.map Tr.strip = ou.map Tr.strip) ∧ (b = false → repl nm g l = (repl nm g (l.drop i)).map (fun r => (out ++ r.1, r.2)))
section
theorem rdown_a {kind : Int} {cn cv : List UInt8} {f : Tr → Tr × Int} (hf : DocOk kind cn cv f) : ∀ (names : List (List UInt8)) (k : Nat) (t : Tr) (H : AHeap) (K : AV → AHeap → Prop), names.length ≤ 100000 → TrM 1000000 t →
    (∀ t' : Tr, Gives (downS f names t) t' → K (.tup [t'.V, .int .i64 (downS f names t).2]) H) → (ACalls Tryd.prog) 48 [t.V, slA k 1 (names.map strV), chV kind cn cv] H K
  | [], k, t, H, K, hn, hm, h => by
    refine acalls_go mo t48 (fun hs hu => ?_)
    have hVi := Tr.V_is t
    rw [downS] at h
    simp only [c48, Tr.V_is, chV_is, go_sem, Nat.reduceLeDiff, Nat.reduceAdd, Nat.reduceSub, Nat.reduceMul, Nat.reduceLT, Int.reduceLT, Int.reduceLE, Int.reduceAdd, Int.reduceSub, Int.reduceMul, Int.reduceToNat, Int.reduceNeg, Int.reduceEq, Nat.reducePow, Int.reducePow, Nat.reduceEqDiff, decide_true, decide_false, reduceIte, reduceCtorEq, Int.reduceBEq, Int.reduceBNe, bne_self_eq_false, Int.cast_ofNat_Int, Bool.not_true, Bool.not_false, IntKind.bits]
    refine stp0 ?_
    rw [← hVi, ← chV_is]
    refine hf t _ _ hm (fun t' ht' => ?_)
    have hx := h t' ht'
    have hV2 := Tr.V_is t'
    have hVu := Tr.V_u H.next t'
    rw [hV2] at hx hVu
    refine stp hV2 ?_
    refine aret_plain hs ?_ hx
    simp only [u_tup, u_cons, u_nil, u_int, and_true]
    exact hVu
  | nm :: ns, k, t, H, K, hn, hm, h => by
    refine acalls_go mo t48 (fun hs hu => ?_)
    have hVi := Tr.V_is t
    have ih := rdown_a hf ns
    have hnl : (nm :: ns).length = ns.length + 1 := List.length_cons
    have hkl := hm.k
    rw [downS] at h
    rw [List.map_cons]
    simp only [c48, Tr.V_is, chV_is, go_sem, Nat.reduceLeDiff, Nat.reduceAdd, Nat.reduceSub, Nat.reduceMul, Nat.reduceLT, Int.reduceLT, Int.reduceLE, Int.reduceAdd, Int.reduceSub, Int.reduceMul, Int.reduceToNat, Int.reduceNeg, Int.reduceEq, Nat.reducePow, Int.reducePow, Nat.reduceEqDiff, decide_true, decide_false, reduceIte, reduceCtorEq, Int.reduceBEq, Int.reduceBNe, bne_self_eq_false, Int.cast_ofNat_Int, Bool.not_true, Bool.not_false, IntKind.bits]
    refine stp0 ?_
    rw [← hp_nil (H := hp H _)]
    refine go_loopS mono (σ := AHeap × AV × List Tr × Bool × Nat) (fun z => [(8, z.2.1), (9, .bool z.2.2.2.1), (10, .int .i64 (z.2.2.2.2 : Int))]) (fun z => hp z.1 []) (fun z => SlAt (H.next + 3) z.1 25 3 z.2.1 (z.2.2.1.map Tr.V) ∧ (Past H z.1 ∧ H.next + 3 ≤ z.1.next) ∧ (z.1.get (H.next + 0) = some (trRow t) ∧ z.1.get (H.next + 1) = some (.row 27 0 [.int .i64 kind, .str (B cn), .str (B cv)]) ∧ z.1.get (H.next + 2) = some (trRow tr0)) ∧ z.2.2.2.2 ≤ t.kids.length ∧ z.2.2.1.length ≤ z.2.2.2.2 ∧ RepI nm (downS f ns) t.kids z.2.2.1 z.2.2.2.1 z.2.2.2.2) (fun z => t.kids.length - z.2.2.2.2) (hp H [trRow t, .row 27 0 [.int .i64 kind, .str (B cn), .str (B cv)], trRow tr0], .nils, [], false, 0) ?_ rfl ⟨slat_nil, ⟨past_hp past_refl _, Nat.le_refl _⟩, ⟨hp_get _ _ 0, hp_get _ _ 1, hp_get _ _ 2⟩, Nat.zero_le _, Nat.zero_le _, ⟨fun q => (by cases q), fun _ => by
      show repl nm (downS f ns) t.kids = (repl nm (downS f ns) t.kids).map (fun r => r)
      simp⟩⟩ (fun z hz J hJ => ?_)
    · exact fgt
    obtain ⟨G, v2, out, b, i⟩ := z
    obtain ⟨hv2, ⟨hG, hGn⟩, ⟨hg0, hg1, hg2⟩, hil, hol, hI⟩ := hz
    simp only at hv2 hG hGn hg0 hg1 hg2 hil hol hI
    have hl0 := G.lt hg0
    have hl1 := G.lt hg1
    have hl2 := G.lt hg2
    have hg0' := hg0
    have hg2' := hg2
    rw [trRow_is] at hg0' hg2'
    simp only [blurR_nil, blurR_some, blurR_none, blurC_region, blurC_regionN, blurC_fregion, blurT_nil, blurT_cons, blurC_seq, blurC_both, blurC_cond, blurC_block, blurC_loop, blurC_skip, blurC_exit, blurC_ret, tellS_nil, tellS_cons, List.set_cons_zero, List.set_cons_succ, tops_zero, tops_succ]
    by_cases h1 : i < t.kids.length
    · have ha := tr_at h1
      have hmk := hm.ks _ (tr_mem h1)
      have hJ2 := fun (G2 : AHeap) (v3 : AV) (o2 : List Tr) (b2 : Bool) p1 p2 p3 p4 p5 a' => hJ (G2, v3, o2, b2, i + 1) a' ⟨p1, p2, p3, h1, p4, p5⟩ (by show t.kids.length - (i + 1) < t.kids.length - i; omega)
      clear hJ
      have hd : t.kids.drop i = t.kids.getD i tr0 :: t.kids.drop (i + 1) := by
        rw [List.drop_eq_getElem_cons h1, List.getD_eq_getElem?_getD, List.getElem?_eq_getElem h1]
        rfl
      unfold RepI at hI hJ2
      rw [hd, repl] at hI
      generalize t.kids.getD i tr0 = x at *
      have hVc := Tr.V_cells x
      have hVx := Tr.V_is x
      have hnx : ∀ (j : Nat), j < 3 → ∀ gen off len sz, v2 ≠ .wr (H.next + j) gen off len sz := fun j hj gen off len sz e => by
        have hj2 := (rowId_lt hv2 (i := H.next + j) (by rw [e]; exact List.mem_singleton.2 rfl)).2
        omega
      have happ : ∀ (G1 : AHeap) (y : Tr), Past G G1 → ∃ v3 G3, aapp 25 3 64 G1 v2 (.imm 3 [.agg [.str (B y.name), slA y.kp 2 (y.props.map propV), slA y.kk 3 (y.kids.map Tr.V)]]) = some (v3, hp G3 []) ∧ SlAt (H.next + 3) G3 25 3 v3 ((out ++ [y]).map Tr.V) ∧ (Past H G3 ∧ H.next + 3 ≤ G3.next) ∧ (G3.get (H.next + 0) = some (trRow t) ∧ G3.get (H.next + 1) = some (.row 27 0 [.int .i64 kind, .str (B cn), .str (B cv)]) ∧ G3.get (H.next + 2) = some (trRow tr0)) := fun G1 y hP => by
        obtain ⟨v3, G3, q1, q2, q3⟩ := slat_app (b := 64) (ys := [y].map Tr.V) (slat_same hv2 (fun j hj => hP.get j (rowId_lt hv2 hj).1)) (Nat.le_trans hGn hP.next) (trs_len _) (tr_one y) (by simp only [List.length_map, List.length_cons, List.length_nil]; omega)
        rw [← List.map_append] at q2
        rw [List.map_cons, List.map_nil, Tr.V_is y] at q1
        refine ⟨v3, G3, q1, q2, ⟨beside_past q3 (by omega) (past_trans hG hP), Nat.le_trans hGn (Nat.le_trans hP.next q3.next)⟩, q3.other _ _ ((hP.get _ hl0).trans hg0) (hnx 0 (by omega)), q3.other _ _ ((hP.get _ hl1).trans hg1) (hnx 1 (by omega)), q3.other _ _ ((hP.get _ hl2).trans hg2) (hnx 2 (by omega))⟩
      have hlen2 : ∀ y : Tr, (out ++ [y]).length ≤ i + 1 := fun y => by rw [List.length_append, List.length_singleton]; omega
      cases b with
      | true =>
        obtain ⟨ou, I1, I2⟩ := hI.1 rfl
        obtain ⟨v3, G3, q1, q2, q3, q4⟩ := happ (hp G [.row 25 0 [.str (B x.name), slA x.kp 2 (x.props.map propV), slA x.kk 3 (x.kids.map Tr.V)]]) x (past_hp past_refl _)
        refine stp (And.intro ha (And.intro hVc (And.intro hg0' q1))) ?_
        exact hJ2 G3 v3 (out ++ [x]) true q2 q3 q4 (hlen2 x) ⟨fun _ => ⟨ou ++ [x], by rw [List.append_assoc]; exact I1, by rw [List.map_append, List.map_append, I2]⟩, fun q => (by cases q)⟩ _ fgt
      | false =>
        have I1 := hI.2 rfl
        by_cases h2 : x.name = nm
        · subst h2
          rw [if_pos rfl] at I1
          obtain ⟨k2, e2⟩ := slA_dropM k 1 ((x.name :: ns).map strV) (i := 1) (by simp)
          have e2 : asliceSl 1 (slA k 1 (AV.str (B x.name) :: List.map strV ns)) (some (.int .i64 1)) none = some (slA k2 1 (ns.map strV)) := e2
          simp only [asliceSl, abound] at e2
          refine stp (And.intro ha (And.intro hVc (And.intro hg0' (And.intro hg1 e2)))) ?_
          rw [← hVx, ← chV_is]
          refine ih k2 x _ _ (by omega) hmk (fun t' ht' => ?_)
          have hV2 := Tr.V_is t'
          by_cases he : (downS f ns x).2 = 0
          · obtain ⟨v3, G3, q1, q2, q3, q4⟩ := happ (hp G [.row 25 0 [.str (B t'.name), slA t'.kp 2 (t'.props.map propV), slA t'.kk 3 (t'.kids.map Tr.V)], .row 25 0 [.str (B t'.name), slA t'.kp 2 (t'.props.map propV), slA t'.kk 3 (t'.kids.map Tr.V)]]) t' (past_hp past_refl _)
            rw [chV_is, he]
            refine stp (And.intro hV2 q1) ?_
            refine hJ2 G3 v3 (out ++ [t']) true q2 q3 q4 (hlen2 t') ⟨fun _ => ⟨out ++ [(downS f ns x).1], ?_, by rw [List.map_append, List.map_append, List.map_cons, List.map_cons, ht'.1 he]⟩, fun q => (by cases q)⟩ _ fgt
            rw [I1, he, List.append_assoc]
            rfl
          · rw [I1] at h
            have hx := h tr0 ⟨fun e => absurd e he, fun _ => rfl⟩
            rw [tr0_V] at hx
            refine stp (And.intro he (And.intro hV2 hg2')) ?_
            exact aret_past (past_hp (past_set hG (by omega) _) _) hs (by simp only [u_top, u_bool, u_int, u_str, u_nilp, u_nils, u_nilf, u_nilm, u_nili, u_emp, u_byteV, u_ptr, u_wr, u_wc, u_agg, u_tup, u_rd, u_imm, u_func, u_nil, u_cons, u_app, uc_nil, uc_cons, uc_app, u_bytes, uc_bytes, u_ints, uc_ints, cells_bool, cells_int, cells_str, cells_agg, cells_ptr, cells_nils, cells_imm, cells_wr, cells_wc, cells_nilp, cells_nilf, cells_nilm, cells_rd, cells_emp, cells_byteV, cells_func, and_self, and_true, true_and, u_slA, uc_strs, cells_slA, strV_is]) hx
        · rw [if_neg h2] at I1
          obtain ⟨v3, G3, q1, q2, q3, q4⟩ := happ (hp G [.row 25 0 [.str (B x.name), slA x.kp 2 (x.props.map propV), slA x.kk 3 (x.kids.map Tr.V)]]) x (past_hp past_refl _)
          refine stp (And.intro ha (And.intro hVc (And.intro hg0' (And.intro h2 q1)))) ?_
          exact hJ2 G3 v3 (out ++ [x]) false q2 q3 q4 (hlen2 x) ⟨fun q => (by cases q), fun _ => by
            rw [I1, Option.map_map]
            congr 1
            funext y
            show (out ++ x :: y.1, y.2) = ((out ++ [x]) ++ y.1, y.2)
            rw [List.append_assoc]
            rfl⟩ _ fgt
    · unfold RepI at hI
      rw [List.drop_of_length_le (by omega), repl] at hI
      cases b with
      | true =>
        obtain ⟨ou, I1, I2⟩ := hI.1 rfl
        rw [List.append_nil] at I1
        rw [I1] at h
        have hx := fun k4 => h (.mk t.name t.kp t.props k4 out) ⟨fun _ => by rw [Tr.strip_is, Tr.strip_is, I2], fun q => absurd rfl q⟩
        simp only [Tr.mk_V] at hx
        obtain ⟨y1, y2, y3, y4⟩ := slat_one2 hv2
        have hri : ∀ j ∈ rowId v2, j ≠ H.next + 0 ∧ j ≠ H.next + 2 := fun j hj => by
          have := (rowId_lt hv2 hj).2
          omega
        refine stp (And.intro hg0' (And.intro hg2' (And.intro y1 (And.intro y2 y3)))) ?_
        rw [hp_nil]
        have hP2 : ∀ o1 o2, Past H ((G.set (H.next + 0) o1).set (H.next + 2) o2) := fun o1 o2 => past_set (past_set hG (by omega) _) (by omega) _
        have hv3 : ∀ o1 o2, SlAt H.next ((G.set (H.next + 0) o1).set (H.next + 2) o2) 25 3 v2 (out.map Tr.V) := fun o1 o2 => slat_same (slat_low hv2 (by omega)) (fun j hj => (set_other (hri j hj).2).trans (set_other (hri j hj).1))
        obtain ⟨G4, k4, s1, s2⟩ := slat_shut (hv3 _ _) (trs_len _)
        refine aret_shut (.tup _ _ [] [.int .i64 0] _ _ (.agg _ _ [.str (B t.name), slA t.kp 2 (t.props.map propV)] [] _ _ s1)) (s2 H (Nat.le_refl _) (hP2 _ _)) hs ?_ (hx k4)
        have hpu := props_u H.next t.props
        have hku := trs_u H.next out
        simp only [List.nil_append, List.cons_append, u_tup, u_agg, u_cons, u_nil, u_str, u_int, u_slA, and_true, true_and]
        exact ⟨hpu, hku⟩
      | false =>
        have I1 := hI.2 rfl
        have I1 : repl nm (downS f ns) t.kids = none := I1
        rw [I1] at h
        have hx := h tr0 ⟨fun e => absurd (show (8 : Int) = 0 from e) (by decide), fun _ => rfl⟩
        rw [tr0_V] at hx
        refine stp (And.intro hg0' hg2') ?_
        exact aret_past (past_hp (past_set hG (by omega) _) []) hs (by simp only [u_top, u_bool, u_int, u_str, u_nilp, u_nils, u_nilf, u_nilm, u_nili, u_emp, u_byteV, u_ptr, u_wr, u_wc, u_agg, u_tup, u_rd, u_imm, u_func, u_nil, u_cons, u_app, uc_nil, uc_cons, uc_app, u_bytes, uc_bytes, u_ints, uc_ints, cells_bool, cells_int, cells_str, cells_agg, cells_ptr, cells_nils, cells_imm, cells_wr, cells_wc, cells_nilp, cells_nilf, cells_nilm, cells_rd, cells_emp, cells_byteV, cells_func, and_self, and_true, true_and, u_slA, uc_strs, cells_slA, strV_is]) hx
end
/-- A change does not look at what empty slices are. -/
def StripOk (f : Tr → Tr × Int) : Prop := ∀ t : Tr, (f t.strip).2 = (f t).2 ∧ (f t.strip).1.strip = (f t).1.strip
theorem strip2 (t : Tr) : t.strip.strip = t.strip := strip_strip _ t (Nat.le_refl _)
theorem strips2 (ks : List Tr) : (ks.map Tr.strip).map Tr.strip = ks.map Tr.strip := by
  rw [List.map_map]
  exact List.map_congr_left (fun k _ => strip2 k)
theorem setF_s (nm v : List UInt8) : StripOk (setF nm v) := fun t => by
  unfold setF
  split
  · refine ⟨rfl, ?_⟩
    rw [Tr.strip_is, Tr.strip_is, Tr.strip_name, Tr.strip_props, Tr.strip_kids, strips2]
  · exact ⟨rfl, strip2 t⟩
theorem unsetF_s (nm : List UInt8) : StripOk (unsetF nm) := fun t => by
  unfold unsetF
  rw [Tr.strip_props]
  split
  · refine ⟨rfl, ?_⟩
    rw [Tr.strip_is, Tr.strip_is, Tr.strip_name, Tr.strip_kids, strips2]
  · exact ⟨rfl, strip2 t⟩
theorem hasK_s (nm : List UInt8) (ks : List Tr) : hasK nm (ks.map Tr.strip) = hasK nm ks := by
  unfold hasK
  rw [List.any_map]
  congr 1
  funext k
  show decide (k.strip.name = nm) = _
  rw [Tr.strip_name]
theorem addF_s (nm : List UInt8) : StripOk (addF nm) := fun t => by
  unfold addF
  rw [Tr.strip_kids, hasK_s]
  split
  · split
    · exact ⟨rfl, strip2 t⟩
    · refine ⟨rfl, ?_⟩
      rw [Tr.strip_is, Tr.strip_is, Tr.strip_name, Tr.strip_props, List.map_append, List.map_append, strips2]
  · exact ⟨rfl, strip2 t⟩
theorem cutF_map {α β : Type} (p : α → Bool) (q : β → Bool) (g : α → β) (h : ∀ x, q (g x) = p x) : ∀ l : List α, cutF q (l.map g) = (cutF p l).map (List.map g)
  | [] => rfl
  | x :: l => by
    rw [List.map_cons, cutF, cutF, h, cutF_map p q g h l]
    split
    · rfl
    · rw [Option.map_map, Option.map_map]
      rfl
theorem dropF_s (nm : List UInt8) : StripOk (dropF nm) := fun t => by
  unfold dropF
  rw [Tr.strip_kids, cutF_map (fun k : Tr => decide (k.name = nm)) (fun k : Tr => decide (k.name = nm)) Tr.strip (fun k => by rw [Tr.strip_name])]
  cases cutF (fun k : Tr => decide (k.name = nm)) t.kids with
  | none => exact ⟨rfl, strip2 t⟩
  | some ks =>
    refine ⟨rfl, ?_⟩
    show (Tr.mk t.strip.name 0 t.strip.props 0 (ks.map Tr.strip)).strip = _
    rw [Tr.strip_is, Tr.strip_is, Tr.strip_name, Tr.strip_props, strips2]
theorem repl_s {nm : List UInt8} {f : Tr → Tr × Int} (hf : StripOk f) : ∀ ks : List Tr, (repl nm f (ks.map Tr.strip)).map (fun r => (r.1.map Tr.strip, r.2)) = (repl nm f ks).map (fun r => (r.1.map Tr.strip, r.2))
  | [] => rfl
  | k :: ks => by
    rw [List.map_cons, repl, repl, Tr.strip_name]
    obtain ⟨h1, h2⟩ := hf k
    split
    · show some ((f k.strip).1.strip :: (ks.map Tr.strip).map Tr.strip, (f k.strip).2) = some ((f k).1.strip :: ks.map Tr.strip, (f k).2)
      rw [h1, h2, strips2]
    · have ih := repl_s (nm := nm) hf ks
      rw [Option.map_map, Option.map_map]
      cases h3 : repl nm f (ks.map Tr.strip) with
      | none =>
        rw [h3] at ih
        cases h4 : repl nm f ks with
        | none => rfl
        | some r => rw [h4] at ih; cases ih
      | some r =>
        rw [h3] at ih
        cases h4 : repl nm f ks with
        | none => rw [h4] at ih; cases ih
        | some r2 =>
          rw [h4] at ih
          have ih : (r.1.map Tr.strip, r.2) = (r2.1.map Tr.strip, r2.2) := Option.some.inj ih
          have i1 : r.1.map Tr.strip = r2.1.map Tr.strip := (Prod.mk.inj ih).1
          have i2 : r.2 = r2.2 := (Prod.mk.inj ih).2
          show some (k.strip.strip :: r.1.map Tr.strip, r.2) = some (k.strip :: r2.1.map Tr.strip, r2.2)
          rw [i1, i2, strip2]
theorem downS_s {f : Tr → Tr × Int} (hf : StripOk f) : ∀ ns : List (List UInt8), StripOk (downS f ns)
  | [] => fun t => hf t
  | nm :: ns => fun t => by
    have ih := repl_s (nm := nm) (downS_s hf ns) t.kids
    rw [downS, downS, Tr.strip_kids]
    cases h3 : repl nm (downS f ns) (t.kids.map Tr.strip) with
    | none =>
      rw [h3] at ih
      cases h4 : repl nm (downS f ns) t.kids with
      | none => exact ⟨rfl, strip2 t⟩
      | some r => rw [h4] at ih; cases ih
    | some r =>
      rw [h3] at ih
      cases h4 : repl nm (downS f ns) t.kids with
      | none => rw [h4] at ih; cases ih
      | some r2 =>
        rw [h4] at ih
        have ih : (r.1.map Tr.strip, r.2) = (r2.1.map Tr.strip, r2.2) := Option.some.inj ih
        have i1 : r.1.map Tr.strip = r2.1.map Tr.strip := (Prod.mk.inj ih).1
        have i2 : r.2 = r2.2 := (Prod.mk.inj ih).2
        refine ⟨i2, ?_⟩
        show (Tr.mk t.strip.name 0 t.strip.props 0 r.1).strip = (Tr.mk t.name 0 t.props 0 r2.1).strip
        rw [Tr.strip_is, Tr.strip_is, Tr.strip_name, Tr.strip_props, i1]
theorem fitsE_same {t u : Tr} (h : t.strip = u.strip) : fitsE t = fitsE u := by rw [← fitsE_strip t, h, fitsE_strip]
theorem changedS_s {f : Tr → Tr × Int} (hf : StripOk f) (p : List UInt8) : StripOk (changedS f p) := fun t => by
  unfold changedS
  cases partsP p with
  | none => exact ⟨rfl, rfl⟩
  | some ns =>
    obtain ⟨h1, h2⟩ := downS_s hf ns t
    simp only [h1, fitsE_same h2]
    split
    · refine ⟨rfl, ?_⟩
      show (if _ then _ else _ : Tr).strip = (if _ then _ else _ : Tr).strip
      split
      · exact h2
      · rfl
    · exact ⟨rfl, rfl⟩
section
variable {H : AHeap} {K : AV → AHeap → Prop}
theorem rfits_a {t : Tr} (ho : TrOk t) (h : K (.tup [(if fitsE t = 0 then t else tr0).V, .int .i64 (fitsE t)]) H) : (ACalls Tryd.prog) 49 [t.V] H K := by
  refine acalls_go mo t49 (fun hs hu => ?_)
  have hVi := Tr.V_is t
  have hVu := Tr.V_u H.next t
  unfold fitsE at h
  simp only [c49, Tr.V_is, go_sem, Nat.reduceLeDiff, Nat.reduceAdd, Nat.reduceSub, Nat.reduceMul, Nat.reduceLT, Int.reduceLT, Int.reduceLE, Int.reduceAdd, Int.reduceSub, Int.reduceMul, Int.reduceToNat, Int.reduceNeg, Int.reduceEq, Nat.reducePow, Int.reducePow, Nat.reduceEqDiff, decide_true, decide_false, reduceIte, reduceCtorEq, Int.reduceBEq, Int.reduceBNe, bne_self_eq_false, Int.cast_ofNat_Int, Bool.not_true, Bool.not_false, IntKind.bits]
  rw [← hVi]
  refine rCount_a ho ?_
  by_cases h1 : (tcount 9 t).2.2 ≤ 8
  · rw [if_pos h1] at h
    refine stp h1 ?_
    rw [← hVi]
    refine rFits_a ho ?_
    cases h2 : tFits t with
    | true =>
      rw [h2, if_pos rfl, if_pos rfl, hVi] at h
      rw [hVi] at hVu
      refine stp0 ?_
      refine aret_plain hs ?_ h
      simp only [u_tup, u_cons, u_nil, u_int, and_true]
      exact hVu
    | false =>
      rw [h2, if_neg Bool.false_ne_true, if_neg (by decide), tr0_V] at h
      refine stp0 ?_
      exact aret_plain hs (by simp only [u_top, u_bool, u_int, u_str, u_nilp, u_nils, u_nilf, u_nilm, u_nili, u_emp, u_byteV, u_ptr, u_wr, u_wc, u_agg, u_tup, u_rd, u_imm, u_func, u_nil, u_cons, u_app, uc_nil, uc_cons, uc_app, u_bytes, uc_bytes, u_ints, uc_ints, cells_bool, cells_int, cells_str, cells_agg, cells_ptr, cells_nils, cells_imm, cells_wr, cells_wc, cells_nilp, cells_nilf, cells_nilm, cells_rd, cells_emp, cells_byteV, cells_func, and_self, and_true, true_and, u_slA, uc_strs, cells_slA, strV_is]) h
  · rw [if_neg h1, if_neg (by decide), tr0_V] at h
    refine stp h1 ?_
    exact aret_plain hs (by simp only [u_top, u_bool, u_int, u_str, u_nilp, u_nils, u_nilf, u_nilm, u_nili, u_emp, u_byteV, u_ptr, u_wr, u_wc, u_agg, u_tup, u_rd, u_imm, u_func, u_nil, u_cons, u_app, uc_nil, uc_cons, uc_app, u_bytes, uc_bytes, u_ints, uc_ints, cells_bool, cells_int, cells_str, cells_agg, cells_ptr, cells_nils, cells_imm, cells_wr, cells_wc, cells_nilp, cells_nilf, cells_nilm, cells_rd, cells_emp, cells_byteV, cells_func, and_self, and_true, true_and, u_slA, uc_strs, cells_slA, strV_is]) h
theorem rDo_a {kind : Int} {cn cv : List UInt8} {f : Tr → Tr × Int} (hf : DocOk kind cn cv f) (hk : KeepM 900000 f) {t : Tr} {p : List UInt8} (hm : TrM 900000 t) (hp_ : p.length ≤ 90000)
    (h : ∀ t' : Tr, t'.strip = (changedS f p t).1.strip → K (.tup [t'.V, .int .i64 (changedS f p t).2]) H) : (ACalls Tryd.prog) 23 [t.V, .str (B p), chV kind cn cv] H K := by
  refine acalls_go mo t23 (fun hs hu => ?_)
  have hVi := Tr.V_is t
  unfold changedS at h
  simp only [c23, Tr.V_is, chV_is, go_sem, Nat.reduceLeDiff, Nat.reduceAdd, Nat.reduceSub, Nat.reduceMul, Nat.reduceLT, Int.reduceLT, Int.reduceLE, Int.reduceAdd, Int.reduceSub, Int.reduceMul, Int.reduceToNat, Int.reduceNeg, Int.reduceEq, Nat.reducePow, Int.reducePow, Nat.reduceEqDiff, decide_true, decide_false, reduceIte, reduceCtorEq, Int.reduceBEq, Int.reduceBNe, bne_self_eq_false, Int.cast_ofNat_Int, Bool.not_true, Bool.not_false, IntKind.bits]
  refine rParts_a (by omega) (fun k => ?_)
  cases hpp : partsP p with
  | none =>
    rw [hpp] at h
    have hx := h tr0 rfl
    rw [tr0_V] at hx
    rw [partsV_n]
    refine stp0 ?_
    exact aret_plain hs (by simp only [u_top, u_bool, u_int, u_str, u_nilp, u_nils, u_nilf, u_nilm, u_nili, u_emp, u_byteV, u_ptr, u_wr, u_wc, u_agg, u_tup, u_rd, u_imm, u_func, u_nil, u_cons, u_app, uc_nil, uc_cons, uc_app, u_bytes, uc_bytes, u_ints, uc_ints, cells_bool, cells_int, cells_str, cells_agg, cells_ptr, cells_nils, cells_imm, cells_wr, cells_wc, cells_nilp, cells_nilf, cells_nilm, cells_rd, cells_emp, cells_byteV, cells_func, and_self, and_true, true_and, u_slA, uc_strs, cells_slA, strV_is]) hx
  | some ns =>
    rw [hpp] at h
    simp only at h
    rw [partsV_s]
    refine stp0 ?_
    rw [← hVi, ← chV_is]
    refine rdown_a hf ns k t _ _ (hns_of _ hpp) (trm_up (by omega) hm) (fun t' ht' => ?_)
    have hV2 := Tr.V_is t'
    by_cases he : (downS f ns t).2 = 0
    · rw [if_pos he] at h
      have hs2 := ht'.1 he
      have hot : TrOk t' := trm_ok (n := 900001) (by omega) (trm_same hs2 (downS_m hk ns t hm he))
      rw [chV_is, he]
      refine stp hV2 ?_
      rw [← hV2]
      refine rfits_a hot ?_
      have hff := fitsE_same hs2
      have hx := h (if fitsE t' = 0 then t' else tr0) (by
        show _ = (if _ then _ else _ : Tr).strip
        rw [hff]
        split
        · exact hs2
        · rfl)
      simp only [← hff] at hx
      generalize (if fitsE t' = 0 then t' else tr0) = tt at *
      have hVt := Tr.V_is tt
      have hVu := Tr.V_u H.next tt
      rw [hVt] at hx hVu
      refine stp hVt ?_
      refine aret_plain hs ?_ hx
      simp only [u_tup, u_cons, u_nil, u_int, and_true]
      exact hVu
    · rw [if_neg he] at h
      have hx := h tr0 rfl
      rw [tr0_V] at hx
      refine stp (And.intro he hV2) ?_
      exact aret_plain hs (by simp only [u_top, u_bool, u_int, u_str, u_nilp, u_nils, u_nilf, u_nilm, u_nili, u_emp, u_byteV, u_ptr, u_wr, u_wc, u_agg, u_tup, u_rd, u_imm, u_func, u_nil, u_cons, u_app, uc_nil, uc_cons, uc_app, u_bytes, uc_bytes, u_ints, uc_ints, cells_bool, cells_int, cells_str, cells_agg, cells_ptr, cells_nils, cells_imm, cells_wr, cells_wc, cells_nilp, cells_nilf, cells_nilm, cells_rd, cells_emp, cells_byteV, cells_func, and_self, and_true, true_and, u_slA, uc_strs, cells_slA, strV_is]) hx
theorem rDrop_a {t : Tr} {p : List UInt8} (hm : TrM 900000 t) (hp_ : p.length ≤ 5000)
    (h : ∀ t' : Tr, t'.strip = (dropS p t).1.strip → K (.tup [t'.V, .int .i64 (dropS p t).2]) H) : (ACalls Tryd.prog) 24 [t.V, .str (B p)] H K := by
  refine acalls_go mo t24 (fun hs hu => ?_)
  have hVi := Tr.V_is t
  unfold dropS at h
  simp only [c24, Tr.V_is, go_sem, Nat.reduceLeDiff, Nat.reduceAdd, Nat.reduceSub, Nat.reduceMul, Nat.reduceLT, Int.reduceLT, Int.reduceLE, Int.reduceAdd, Int.reduceSub, Int.reduceMul, Int.reduceToNat, Int.reduceNeg, Int.reduceEq, Nat.reducePow, Int.reducePow, Nat.reduceEqDiff, decide_true, decide_false, reduceIte, reduceCtorEq, Int.reduceBEq, Int.reduceBNe, bne_self_eq_false, Int.cast_ofNat_Int, Bool.not_true, Bool.not_false, IntKind.bits]
  refine rParts_a (by omega) (fun k => ?_)
  cases hpp : partsP p with
  | none =>
    rw [hpp] at h
    have hx := h tr0 rfl
    rw [tr0_V] at hx
    rw [partsV_n]
    refine stp0 ?_
    exact aret_plain hs (by simp only [u_top, u_bool, u_int, u_str, u_nilp, u_nils, u_nilf, u_nilm, u_nili, u_emp, u_byteV, u_ptr, u_wr, u_wc, u_agg, u_tup, u_rd, u_imm, u_func, u_nil, u_cons, u_app, uc_nil, uc_cons, uc_app, u_bytes, uc_bytes, u_ints, uc_ints, cells_bool, cells_int, cells_str, cells_agg, cells_ptr, cells_nils, cells_imm, cells_wr, cells_wc, cells_nilp, cells_nilf, cells_nilm, cells_rd, cells_emp, cells_byteV, cells_func, and_self, and_true, true_and, u_slA, uc_strs, cells_slA, strV_is]) hx
  | some ns =>
    rw [hpp] at h
    rw [partsV_s]
    by_cases h0 : ns = []
    · subst h0
      have hx := h tr0 rfl
      rw [tr0_V] at hx
      have hx : K (.tup [.agg [.str (B []), .nils, .nils], .int .i64 1]) H := hx
      refine stp0 ?_
      exact aret_plain hs (by simp only [u_top, u_bool, u_int, u_str, u_nilp, u_nils, u_nilf, u_nilm, u_nili, u_emp, u_byteV, u_ptr, u_wr, u_wc, u_agg, u_tup, u_rd, u_imm, u_func, u_nil, u_cons, u_app, uc_nil, uc_cons, uc_app, u_bytes, uc_bytes, u_ints, uc_ints, cells_bool, cells_int, cells_str, cells_agg, cells_ptr, cells_nils, cells_imm, cells_wr, cells_wc, cells_nilp, cells_nilf, cells_nilm, cells_rd, cells_emp, cells_byteV, cells_func, and_self, and_true, true_and, u_slA, uc_strs, cells_slA, strV_is]) hx
    · have hl := List.length_pos_iff.2 h0
      have h8 := partsP_le hpp
      simp only [h0, if_false] at h
      obtain ⟨j1, j2, j3⟩ := joins_take hpp hp_ (ns.length - 1)
      obtain ⟨k2, e2⟩ := slA_cut k 1 (ns.map strV) (i := ns.length - 1) (by rw [List.length_map]; omega)
      rw [← List.map_take] at e2
      have e2 : asliceSl 1 (slA k 1 (ns.map strV)) none (some (.int .i64 ((ns.length - 1 : Nat) : Int))) = some (slA k2 1 ((ns.take (ns.length - 1)).map strV)) := e2
      simp only [asliceSl, abound] at e2
      have hat := strs_at (ls := ns) (i := ns.length - 1) (by omega)
      refine stp e2 ?_
      refine ⟨_, rJoin_a j1 j2 ⟨rfl, rfl⟩, ?_⟩
      refine stp hat ?_
      rw [← hVi, ← chV_is]
      refine rDo_a doc4 dropF_m hm (by omega) (fun t' ht' => ?_)
      have hx := h t' ht'
      have hV2 := Tr.V_is t'
      have hVu := Tr.V_u H.next t'
      rw [hV2] at hx hVu
      refine stp hV2 ?_
      refine aret_plain hs ?_ hx
      simp only [u_tup, u_cons, u_nil, u_int, and_true]
      exact hVu
end
section
variable {H : AHeap} {K : AV → AHeap → Prop}
theorem rMake_a {n : Nat} {t : Tr} {p : List UInt8} (hn : n ≤ 90000) (ht : TrM n t) (hp_ : p.length ≤ 900)
    (h : ∀ t' : Tr, t'.strip = (makeS p t.strip).1.strip → K (.tup [t'.V, .int .i64 (makeS p t.strip).2]) H) :
    (ACalls Tryd.prog) 25 [t.V, .str (B p)] H K := by
  refine acalls_go mo t25 (fun hs hu => ?_)
  have hVi := Tr.V_is t
  unfold makeS at h
  simp only [c25, Tr.V_is, go_sem, Nat.reduceLeDiff, Nat.reduceAdd, Nat.reduceSub, Nat.reduceMul, Nat.reduceLT, Int.reduceLT, Int.reduceLE, Int.reduceAdd, Int.reduceSub, Int.reduceMul, Int.reduceToNat, Int.reduceNeg, Int.reduceEq, Nat.reducePow, Int.reducePow, Nat.reduceEqDiff, decide_true, decide_false, reduceIte, reduceCtorEq, Int.reduceBEq, Int.reduceBNe, bne_self_eq_false, Int.cast_ofNat_Int, Bool.not_true, Bool.not_false, IntKind.bits]
  refine rParts_a (by omega) (fun k => ?_)
  cases hpp : partsP p with
  | none =>
    rw [hpp] at h
    have hx := h tr0 rfl
    rw [tr0_V] at hx
    rw [partsV_n]
    refine stp0 ?_
    exact aret_plain hs (by simp only [u_top, u_bool, u_int, u_str, u_nilp, u_nils, u_nilf, u_nilm, u_nili, u_emp, u_byteV, u_ptr, u_wr, u_wc, u_agg, u_tup, u_rd, u_imm, u_func, u_nil, u_cons, u_app, uc_nil, uc_cons, uc_app, u_bytes, uc_bytes, u_ints, uc_ints, cells_bool, cells_int, cells_str, cells_agg, cells_ptr, cells_nils, cells_imm, cells_wr, cells_wc, cells_nilp, cells_nilf, cells_nilm, cells_rd, cells_emp, cells_byteV, cells_func, and_self, and_true, true_and, u_slA, uc_strs, cells_slA, strV_is]) hx
  | some ns =>
    rw [hpp] at h
    simp only at h
    rw [partsV_s]
    have h8 := partsP_le hpp
    have hmem := parts_mem hpp
    refine stp0 ?_
    rw [← hp_nil (H := hp H _)]
    refine go_loopS mono (σ := AHeap × Tr × Nat) (fun z => [(8, .int .i64 (z.2.2 : Int))]) (fun z => hp z.1 []) (fun z => Past H z.1 ∧ z.2.2 ≤ ns.length ∧ TrM (n + z.2.2) z.2.1 ∧ makeL ns (ns.length - z.2.2) z.2.2 z.2.1.strip = makeL ns ns.length 0 t.strip ∧ z.1.get (H.next + 0) = some (trRow z.2.1) ∧ z.1.get (H.next + 1) = some (trRow tr0)) (fun z => ns.length - z.2.2) (hp H [trRow t, trRow tr0], t, 0) ?_ rfl ⟨past_hp past_refl _, Nat.zero_le _, ht, rfl, hp_get _ _ 0, hp_get _ _ 1⟩ (fun z hz J hJ => ?_)
    · exact fgt
    obtain ⟨G, u, i⟩ := z
    obtain ⟨hG, hil, hum, hmk, hg0, hg1⟩ := hz
    simp only at hG hil hum hmk hg0 hg1
    have hl0 := G.lt hg0
    have hl1 := G.lt hg1
    have huo := trm_ok (by omega) hum
    have hVu := Tr.V_is u
    rw [trRow_is] at hg0 hg1
    simp only [blurR_nil, blurR_some, blurR_none, blurC_region, blurC_regionN, blurC_fregion, blurT_nil, blurT_cons, blurC_seq, blurC_both, blurC_cond, blurC_block, blurC_loop, blurC_skip, blurC_exit, blurC_ret, tellS_nil, tellS_cons, List.set_cons_zero, List.set_cons_succ, tops_zero, tops_succ]
    by_cases h1 : i < ns.length
    · have hJ2 := fun (G2 : AHeap) (u2 : Tr) (p1 : Past H G2) (p2 : TrM (n + (i + 1)) u2) p3 p4 p5 a' => hJ (G2, u2, i + 1) a' ⟨p1, h1, p2, p3, p4, p5⟩ (by show ns.length - (i + 1) < ns.length - i; omega)
      clear hJ
      obtain ⟨m, hm⟩ : ∃ m, ns.length - i = m + 1 := ⟨ns.length - i - 1, by omega⟩
      have hm2 : ns.length - (i + 1) = m := by omega
      rw [hm, makeL] at hmk
      simp only [hm2] at hJ2
      obtain ⟨j1, j2, j3⟩ := joins_take hpp (by omega) (i + 1)
      obtain ⟨q1, q2, q3⟩ := joins_take hpp (by omega) i
      obtain ⟨k2, e2⟩ := slA_cut k 1 (ns.map strV) (i := i + 1) (by rw [List.length_map]; omega)
      obtain ⟨k3, e3⟩ := slA_cut k 1 (ns.map strV) (i := i) (by rw [List.length_map]; omega)
      rw [← List.map_take] at e2 e3
      simp only [asliceSl, abound] at e2 e3
      have hat := strs_at h1
      have hnl : (ns.getD i []).length ≤ 900 := Nat.le_trans (hmem _ (getD_mem h1)) hp_
      refine stp (And.intro hg0 e2) ?_
      refine ⟨_, rJoin_a j1 j2 ⟨rfl, rfl⟩, ?_⟩
      refine stp0 ?_
      rw [← hVu]
      refine find_a huo (by omega) ?_
      rw [foundV_is]
      have hfs : (findT u.strip (joinPs (ns.take (i + 1)))).isSome = (findT u (joinPs (ns.take (i + 1)))).isSome := by rw [findT_strip, Option.isSome_map]
      rw [hfs] at hmk
      cases hf : (findT u (joinPs (ns.take (i + 1)))).isSome with
      | true =>
        rw [hf, if_pos rfl] at hmk
        generalize (findT u (joinPs (ns.take (i + 1)))).getD tr0 = fu at *
        refine stp0 ?_
        rw [← hp_nil (H := hp G _)]
        refine hJ2 _ u (past_hp hG _) (trm_up (by omega) hum) hmk ?_ ?_ _ fgt
        · rw [hp_old hl0, hg0, trRow_is]
        · rw [hp_old hl1, hg1, trRow_is]
      | false =>
        rw [hf, if_neg Bool.false_ne_true] at hmk
        generalize (findT u (joinPs (ns.take (i + 1)))).getD tr0 = fu at *
        refine stp (And.intro hg0 e3) ?_
        refine ⟨_, rJoin_a q1 q2 ⟨rfl, rfl⟩, ?_⟩
        refine stp hat ?_
        rw [← hVu, ← chV_is]
        refine rDo_a (doc3 (by omega)) (addF_m (by omega)) (trm_up (by omega) hum) (by omega) (fun t' ht' => ?_)
        obtain ⟨z1, z2⟩ := changedS_s (addF_s (ns.getD i [])) (joinPs (ns.take i)) u
        rw [← z2] at ht'
        rw [← z1, chV_is]
        have htm : TrM (n + (i + 1)) t' := trm_of _ t' (Nat.le_refl _) (by rw [ht']; exact trm_strip (changedS_m (n := n + i) (addF_m (by omega)) (trm_strip hum)))
        generalize changedS (addF (ns.getD i [])) (joinPs (ns.take i)) u.strip = r at *
        have hVt := Tr.V_is t'
        by_cases he : r.2 = 0
        · rw [if_pos he, ← ht'] at hmk
          refine stp (And.intro he (And.intro hVt hg0)) ?_
          rw [← hp_nil (H := hp (G.set _ _) _)]
          refine hJ2 _ t' (past_hp (past_set hG (by omega) _) _) htm hmk ?_ ?_ _ fgt
          · rw [hp_old (by rw [set_next]; omega), set_got (by omega), trRow_is]
          · rw [hp_old (by rw [set_next]; omega), set_other (by omega), hg1, trRow_is]
        · rw [if_neg he] at hmk
          rw [← hmk] at h
          have hx := h tr0 rfl
          rw [tr0_V] at hx
          refine stp (And.intro he (And.intro hVt hg1)) ?_
          exact aret_past (past_hp (past_set hG (by omega) _) _) hs (by simp only [u_top, u_bool, u_int, u_str, u_nilp, u_nils, u_nilf, u_nilm, u_nili, u_emp, u_byteV, u_ptr, u_wr, u_wc, u_agg, u_tup, u_rd, u_imm, u_func, u_nil, u_cons, u_app, uc_nil, uc_cons, uc_app, u_bytes, uc_bytes, u_ints, uc_ints, cells_bool, cells_int, cells_str, cells_agg, cells_ptr, cells_nils, cells_imm, cells_wr, cells_wc, cells_nilp, cells_nilf, cells_nilm, cells_rd, cells_emp, cells_byteV, cells_func, and_self, and_true, true_and, u_slA, uc_strs, cells_slA, strV_is]) hx
    · have hie : i = ns.length := by omega
      subst hie
      rw [Nat.sub_self, makeL] at hmk
      rw [← hmk] at h
      refine stp hg0 ?_
      rw [← hVu]
      refine rfits_a huo ?_
      have hx := h (if fitsE u = 0 then u else tr0) (by
        rw [fitsE_strip]
        show _ = (if _ then _ else _ : Tr).strip
        split
        · exact (strip2 u).symm
        · rfl)
      simp only [fitsE_strip] at hx
      generalize (if fitsE u = 0 then u else tr0) = tt at *
      have hVt := Tr.V_is tt
      have hVu2 := Tr.V_u H.next tt
      rw [hVt] at hx hVu2
      refine stp (And.intro hVt hg1) ?_
      refine aret_past (past_hp (past_set hG (by omega) _) []) hs ?_ hx
      simp only [u_tup, u_cons, u_nil, u_int, and_true]
      exact hVu2
end
def c22 : ACode := 
    (.seq 
    (.region [⟨(some 2), (.s (.box 25 (.tmp 0))), none⟩, ⟨(some 4), (.q (.move (.const .nils))), none⟩]) 
    (.seq 
    (.seq 
    (.region [⟨(some 8), (.q (.move (.tmp 1))), none⟩, ⟨(some 9), (.q (.bin .eql (.tmp 8) (.const (.int .i64 0)))), none⟩]) 
    (.cond (.tmp 9) 
    (.seq 
    (.region [⟨(some 4), (.q (.move (.const .nils))), none⟩]) .ret) .skip)) 
    (.seq 
    (.region [⟨(some 10), (.q (.fieldAddr 0 (.tmp 2))), none⟩, ⟨(some 11), (.q (.load false 1 (.tmp 10))), none⟩, ⟨(some 12), (.q (.build [(.int .i64 0), (.str (B [])), (.str (B []))] [(0, (1, (.const (.int .i64 1)))), (1, (1, (.tmp 11)))])), none⟩, ⟨(some 13), (.s (.litw 36 3 [(.tmp 12)])), none⟩, ⟨(some 5), (.q (.move (.tmp 13))), none⟩]) 
    (.seq 
    (.seq 
    (.region [⟨(some 6), (.q (.move (.const (.int .i64 0)))), none⟩]) 
    (.block 0 
    (.loop 
    (.seq 
    (.seq 
    (.region [⟨(some 14), (.q (.move (.tmp 6))), none⟩, ⟨(some 15), (.q (.fieldAddr 1 (.tmp 2))), none⟩, ⟨(some 16), (.q (.load false 1 (.tmp 15))), none⟩, ⟨(some 17), (.q (.len false (.tmp 16))), none⟩, ⟨(some 18), (.q (.bin .lss (.tmp 14) (.tmp 17))), none⟩]) 
    (.cond (.tmp 18) .skip (.exit 0))) 
    (.seq 
    (.block 1 
    (.region [⟨(some 21), (.q (.move (.tmp 5))), none⟩, ⟨(some 22), (.q (.fieldAddr 1 (.tmp 2))), none⟩, ⟨(some 23), (.q (.load false 1 (.tmp 22))), none⟩, ⟨(some 24), (.q (.move (.tmp 6))), none⟩, ⟨(some 25), (.q (.idxSl 2 (.tmp 23) (.tmp 24))), none⟩, ⟨(some 26), (.q (.fieldAddr 0 (.tmp 25))), none⟩, ⟨(some 27), (.q (.load false 1 (.tmp 26))), none⟩, ⟨(some 28), (.q (.fieldAddr 1 (.tmp 2))), none⟩, ⟨(some 29), (.q (.load false 1 (.tmp 28))), none⟩, ⟨(some 30), (.q (.move (.tmp 6))), none⟩, ⟨(some 31), (.q (.idxSl 2 (.tmp 29) (.tmp 30))), none⟩, ⟨(some 32), (.q (.fieldAddr 1 (.tmp 31))), none⟩, ⟨(some 33), (.q (.load false 1 (.tmp 32))), none⟩, ⟨(some 34), (.q (.build [(.int .i64 0), (.str (B [])), (.str (B []))] [(0, (1, (.const (.int .i64 3)))), (1, (1, (.tmp 27))), (2, (1, (.tmp 33)))])), none⟩, ⟨(some 35), (.s (.lit 36 3 [(.tmp 34)])), none⟩, ⟨(some 36), (.s (.app 36 3 40 (.tmp 21) (.tmp 35))), none⟩, ⟨(some 5), (.q (.move (.tmp 36))), none⟩])) 
    (.region [⟨(some 19), (.q (.move (.tmp 6))), none⟩, ⟨(some 20), (.q (.bin .add (.tmp 19) (.const (.int .i64 1)))), none⟩, ⟨(some 6), (.q (.move (.tmp 20))), none⟩])))))) 
    (.seq 
    (.seq 
    (.region [⟨(some 7), (.q (.move (.const (.int .i64 0)))), none⟩]) 
    (.block 2 
    (.loop 
    (.seq 
    (.seq 
    (.region [⟨(some 37), (.q (.move (.tmp 7))), none⟩, ⟨(some 38), (.q (.fieldAddr 2 (.tmp 2))), none⟩, ⟨(some 39), (.q (.load false 1 (.tmp 38))), none⟩, ⟨(some 40), (.q (.len false (.tmp 39))), none⟩, ⟨(some 41), (.q (.bin .lss (.tmp 37) (.tmp 40))), none⟩]) 
    (.cond (.tmp 41) .skip (.exit 2))) 
    (.seq 
    (.block 3 
    (.region [⟨(some 44), (.q (.move (.tmp 5))), none⟩, ⟨(some 45), (.q (.fieldAddr 2 (.tmp 2))), none⟩, ⟨(some 46), (.q (.load false 1 (.tmp 45))), none⟩, ⟨(some 47), (.q (.move (.tmp 7))), none⟩, ⟨(some 48), (.q (.idxSl 3 (.tmp 46) (.tmp 47))), none⟩, ⟨(some 49), (.q (.load true 3 (.tmp 48))), none⟩, ⟨(some 50), (.q (.move (.tmp 1))), none⟩, ⟨(some 51), (.q (.bin .sub (.tmp 50) (.const (.int .i64 1)))), none⟩, ⟨(some 52), (.s (.call 22 [(.tmp 49), (.tmp 51)])), none⟩, ⟨(some 53), (.s (.app 36 3 40 (.tmp 44) (.tmp 52))), none⟩, ⟨(some 5), (.q (.move (.tmp 53))), none⟩])) 
    (.region [⟨(some 42), (.q (.move (.tmp 7))), none⟩, ⟨(some 43), (.q (.bin .add (.tmp 42) (.const (.int .i64 1)))), none⟩, ⟨(some 7), (.q (.move (.tmp 43))), none⟩])))))) 
    (.seq 
    (.region [⟨(some 54), (.q (.move (.tmp 5))), none⟩, ⟨(some 55), (.q (.build [(.int .i64 0), (.str (B [])), (.str (B []))] [(0, (1, (.const (.int .i64 2))))])), none⟩, ⟨(some 56), (.s (.lit 36 3 [(.tmp 55)])), none⟩, ⟨(some 57), (.s (.app 36 3 40 (.tmp 54) (.tmp 56))), none⟩, ⟨(some 4), (.q (.move (.tmp 57))), none⟩]) .ret))))))
theorem t22 : Told Tryd.prog 22 58 c22 [(.tmp 4)] := ⟨Tryd.f22, _, [13], Tryd.func22, rfl, by kernel_rfl, rfl, by kernel_rfl, by kernel_rfl⟩
def c8 : ACode := 
    (.seq 
    (.region [⟨(some 1), (.s (.box 25 (.tmp 0))), none⟩, ⟨(some 2), (.q (.move (.const .nils))), none⟩]) 
    (.seq 
    (.region [⟨(some 3), (.q (.load true 3 (.tmp 1))), none⟩, ⟨(some 4), (.s (.call 22 [(.tmp 3), (.const (.int .i64 8))])), none⟩, ⟨(some 2), (.q (.move (.tmp 4))), none⟩]) .ret))
theorem t8 : Told Tryd.prog 8 5 c8 [(.tmp 2)] := ⟨Tryd.f8, _, [], Tryd.func8, rfl, by kernel_rfl, rfl, by kernel_rfl, by kernel_rfl⟩
def c9 : ACode := 
    (.seq 
    (.region [⟨(some 3), (.s (.box 25 (.tmp 0))), none⟩, ⟨(some 5), (.s (.box 27 (.tmp 2))), none⟩, ⟨(some 6), (.s (.alloc 25 [(.str (B [])), .nils, .nils])), none⟩, ⟨(some 7), (.q (.move (.const (.int .i64 0)))), none⟩]) 
    (.seq 
    (.seq 
    (.region [⟨(some 8), (.q (.fieldAddr 0 (.tmp 5))), none⟩, ⟨(some 9), (.q (.load false 1 (.tmp 8))), none⟩]) 
    (.block 0 
    (.seq 
    (.region [⟨(some 11), (.q (.bin .eql (.tmp 9) (.const (.int .i64 1)))), none⟩, ⟨(some 10), (.q (.move (.tmp 11))), none⟩]) 
    (.cond (.tmp 10) 
    (.seq 
    (.region [⟨(some 12), (.q (.load true 3 (.tmp 3))), none⟩, ⟨(some 13), (.q (.move (.tmp 1))), none⟩, ⟨(some 14), (.q (.fieldAddr 1 (.tmp 5))), none⟩, ⟨(some 15), (.q (.load false 1 (.tmp 14))), none⟩, ⟨(some 16), (.q (.fieldAddr 2 (.tmp 5))), none⟩, ⟨(some 17), (.q (.load false 1 (.tmp 16))), none⟩, ⟨(some 18), (.s (.call 14 [(.tmp 12), (.tmp 13), (.tmp 15), (.tmp 17)])), none⟩, ⟨(some 19), (.q (.extract 0 (.tmp 18))), none⟩, ⟨(some 20), (.q (.extract 1 (.tmp 18))), none⟩, ⟨none, (.s (.store 3 (.tmp 6) (.tmp 19))), none⟩, ⟨(some 7), (.q (.move (.tmp 20))), none⟩]) .ret) 
    (.seq 
    (.region [⟨(some 22), (.q (.bin .eql (.tmp 9) (.const (.int .i64 2)))), none⟩, ⟨(some 21), (.q (.move (.tmp 22))), none⟩]) 
    (.cond (.tmp 21) 
    (.seq 
    (.region [⟨(some 23), (.q (.load true 3 (.tmp 3))), none⟩, ⟨(some 24), (.q (.move (.tmp 1))), none⟩, ⟨(some 25), (.q (.fieldAddr 1 (.tmp 5))), none⟩, ⟨(some 26), (.q (.load false 1 (.tmp 25))), none⟩, ⟨(some 27), (.s (.call 16 [(.tmp 23), (.tmp 24), (.tmp 26)])), none⟩, ⟨(some 28), (.q (.extract 0 (.tmp 27))), none⟩, ⟨(some 29), (.q (.extract 1 (.tmp 27))), none⟩, ⟨none, (.s (.store 3 (.tmp 6) (.tmp 28))), none⟩, ⟨(some 7), (.q (.move (.tmp 29))), none⟩]) .ret) 
    (.seq 
    (.region [⟨(some 31), (.q (.bin .eql (.tmp 9) (.const (.int .i64 3)))), none⟩, ⟨(some 30), (.q (.move (.tmp 31))), none⟩]) 
    (.cond (.tmp 30) 
    (.seq 
    (.region [⟨(some 32), (.q (.load true 3 (.tmp 3))), none⟩, ⟨(some 33), (.q (.move (.tmp 1))), none⟩, ⟨(some 34), (.q (.fieldAddr 1 (.tmp 5))), none⟩, ⟨(some 35), (.q (.load false 1 (.tmp 34))), none⟩, ⟨(some 36), (.s (.call 17 [(.tmp 32), (.tmp 33), (.tmp 35)])), none⟩, ⟨(some 37), (.q (.extract 0 (.tmp 36))), none⟩, ⟨(some 38), (.q (.extract 1 (.tmp 36))), none⟩, ⟨none, (.s (.store 3 (.tmp 6) (.tmp 37))), none⟩, ⟨(some 7), (.q (.move (.tmp 38))), none⟩]) .ret) 
    (.seq 
    (.region [⟨(some 40), (.q (.bin .eql (.tmp 9) (.const (.int .i64 5)))), none⟩, ⟨(some 39), (.q (.move (.tmp 40))), none⟩]) 
    (.cond (.tmp 39) 
    (.seq 
    (.region [⟨(some 41), (.q (.load true 3 (.tmp 3))), none⟩, ⟨(some 42), (.q (.move (.tmp 1))), none⟩, ⟨(some 43), (.s (.call 18 [(.tmp 41), (.tmp 42)])), none⟩, ⟨(some 44), (.q (.extract 0 (.tmp 43))), none⟩, ⟨(some 45), (.q (.extract 1 (.tmp 43))), none⟩, ⟨none, (.s (.store 3 (.tmp 6) (.tmp 44))), none⟩, ⟨(some 7), (.q (.move (.tmp 45))), none⟩]) .ret) .skip)))))))))) 
    (.seq 
    (.region [⟨(some 46), (.q (.load true 3 (.tmp 3))), none⟩, ⟨(some 47), (.q (.move (.tmp 1))), none⟩, ⟨(some 48), (.s (.call 21 [(.tmp 46), (.tmp 47)])), none⟩, ⟨(some 49), (.q (.extract 0 (.tmp 48))), none⟩, ⟨(some 50), (.q (.extract 1 (.tmp 48))), none⟩, ⟨none, (.s (.store 3 (.tmp 6) (.tmp 49))), none⟩, ⟨(some 7), (.q (.move (.tmp 50))), none⟩]) .ret)))
theorem t9 : Told Tryd.prog 9 51 c9 [(.cell 6 true 3), (.tmp 7)] := ⟨Tryd.f9, _, [], Tryd.func9, rfl, by kernel_rfl, rfl, by kernel_rfl, by kernel_rfl⟩
def c10 : ACode := 
    (.seq 
    (.region [⟨(some 3), (.s (.box 25 (.tmp 0))), none⟩, ⟨(some 5), (.s (.box 27 (.tmp 2))), none⟩, ⟨(some 6), (.s (.alloc 25 [(.str (B [])), .nils, .nils])), none⟩, ⟨(some 7), (.q (.move (.const (.int .i64 0)))), none⟩]) 
    (.seq 
    (.seq 
    (.region [⟨(some 8), (.q (.fieldAddr 0 (.tmp 5))), none⟩, ⟨(some 9), (.q (.load false 1 (.tmp 8))), none⟩]) 
    (.block 0 
    (.seq 
    (.seq 
    (.region [⟨(some 11), (.q (.bin .eql (.tmp 9) (.const (.int .i64 1)))), none⟩, ⟨(some 10), (.q (.move (.tmp 11))), none⟩]) 
    (.cond (.tmp 10) .skip 
    (.seq 
    (.region [⟨(some 12), (.q (.bin .eql (.tmp 9) (.const (.int .i64 2)))), none⟩, ⟨(some 10), (.q (.move (.tmp 12))), none⟩]) 
    (.cond (.tmp 10) .skip 
    (.region [⟨(some 13), (.q (.bin .eql (.tmp 9) (.const (.int .i64 3)))), none⟩, ⟨(some 10), (.q (.move (.tmp 13))), none⟩]))))) 
    (.cond (.tmp 10) 
    (.seq 
    (.region [⟨(some 14), (.q (.load true 3 (.tmp 3))), none⟩, ⟨(some 15), (.q (.move (.tmp 1))), none⟩, ⟨(some 16), (.q (.load true 3 (.tmp 5))), none⟩, ⟨(some 17), (.s (.call 23 [(.tmp 14), (.tmp 15), (.tmp 16)])), none⟩, ⟨(some 18), (.q (.extract 0 (.tmp 17))), none⟩, ⟨(some 19), (.q (.extract 1 (.tmp 17))), none⟩, ⟨none, (.s (.store 3 (.tmp 6) (.tmp 18))), none⟩, ⟨(some 7), (.q (.move (.tmp 19))), none⟩]) .ret) 
    (.seq 
    (.region [⟨(some 21), (.q (.bin .eql (.tmp 9) (.const (.int .i64 5)))), none⟩, ⟨(some 20), (.q (.move (.tmp 21))), none⟩]) 
    (.cond (.tmp 20) 
    (.seq 
    (.region [⟨(some 22), (.q (.load true 3 (.tmp 3))), none⟩, ⟨(some 23), (.q (.move (.tmp 1))), none⟩, ⟨(some 24), (.s (.call 24 [(.tmp 22), (.tmp 23)])), none⟩, ⟨(some 25), (.q (.extract 0 (.tmp 24))), none⟩, ⟨(some 26), (.q (.extract 1 (.tmp 24))), none⟩, ⟨none, (.s (.store 3 (.tmp 6) (.tmp 25))), none⟩, ⟨(some 7), (.q (.move (.tmp 26))), none⟩]) .ret) .skip)))))) 
    (.seq 
    (.region [⟨(some 27), (.q (.load true 3 (.tmp 3))), none⟩, ⟨(some 28), (.q (.move (.tmp 1))), none⟩, ⟨(some 29), (.s (.call 25 [(.tmp 27), (.tmp 28)])), none⟩, ⟨(some 30), (.q (.extract 0 (.tmp 29))), none⟩, ⟨(some 31), (.q (.extract 1 (.tmp 29))), none⟩, ⟨none, (.s (.store 3 (.tmp 6) (.tmp 30))), none⟩, ⟨(some 7), (.q (.move (.tmp 31))), none⟩]) .ret)))
theorem t10 : Told Tryd.prog 10 32 c10 [(.cell 6 true 3), (.tmp 7)] := ⟨Tryd.f10, _, [], Tryd.func10, rfl, by kernel_rfl, rfl, by kernel_rfl, by kernel_rfl⟩
def c7 : ACode := 
    (.seq 
    (.region [⟨(some 0), (.q (.move (.const (.bool false)))), none⟩]) 
    (.seq 
    (.region [⟨(some 12), (.q (.build [(.str (B [])), .nils, .nils] [])), none⟩, ⟨(some 13), (.s (.call 21 [(.tmp 12), (.const (.str (B [47, 97, 47, 98])))])), none⟩, ⟨(some 11), (.q (.move (.tmp 13))), none⟩, ⟨(some 14), (.q (.extract 0 (.tmp 11))), none⟩, ⟨(some 15), (.q (.extract 1 (.tmp 11))), none⟩, ⟨(some 1), (.s (.alloc 25 [(.str (B [])), .nils, .nils])), none⟩, ⟨none, (.s (.store 3 (.tmp 1) (.tmp 14))), none⟩, ⟨(some 2), (.q (.move (.tmp 15))), none⟩]) 
    (.seq 
    (.region [⟨(some 17), (.q (.load true 3 (.tmp 1))), none⟩, ⟨(some 18), (.s (.call 14 [(.tmp 17), (.const (.str (B [47, 97, 47, 98]))), (.const (.str (B [120]))), (.const (.str (B [49])))])), none⟩, ⟨(some 16), (.q (.move (.tmp 18))), none⟩, ⟨(some 19), (.q (.extract 0 (.tmp 16))), none⟩, ⟨(some 20), (.q (.extract 1 (.tmp 16))), none⟩, ⟨(some 3), (.s (.alloc 25 [(.str (B [])), .nils, .nils])), none⟩, ⟨none, (.s (.store 3 (.tmp 3) (.tmp 19))), none⟩, ⟨(some 4), (.q (.move (.tmp 20))), none⟩]) 
    (.seq 
    (.region [⟨(some 22), (.q (.load true 3 (.tmp 3))), none⟩, ⟨(some 23), (.s (.call 13 [(.tmp 22), (.const (.str (B [47, 97, 47, 98])))])), none⟩, ⟨(some 21), (.q (.move (.tmp 23))), none⟩, ⟨(some 24), (.q (.extract 0 (.tmp 21))), none⟩, ⟨(some 25), (.q (.extract 1 (.tmp 21))), none⟩, ⟨(some 5), (.s (.alloc 25 [(.str (B [])), .nils, .nils])), none⟩, ⟨none, (.s (.store 3 (.tmp 5) (.tmp 24))), none⟩, ⟨(some 6), (.q (.move (.tmp 25))), none⟩]) 
    (.seq 
    (.region [⟨(some 27), (.q (.load true 3 (.tmp 3))), none⟩, ⟨(some 28), (.s (.call 18 [(.tmp 27), (.const (.str (B [47, 97])))])), none⟩, ⟨(some 26), (.q (.move (.tmp 28))), none⟩, ⟨(some 29), (.q (.extract 0 (.tmp 26))), none⟩, ⟨(some 30), (.q (.extract 1 (.tmp 26))), none⟩, ⟨(some 7), (.s (.alloc 25 [(.str (B [])), .nils, .nils])), none⟩, ⟨none, (.s (.store 3 (.tmp 7) (.tmp 29))), none⟩, ⟨(some 8), (.q (.move (.tmp 30))), none⟩]) 
    (.seq 
    (.region [⟨(some 32), (.q (.load true 3 (.tmp 1))), none⟩, ⟨(some 33), (.s (.call 17 [(.tmp 32), (.const (.str (B [47, 97]))), (.const (.str (B [98])))])), none⟩, ⟨(some 31), (.q (.move (.tmp 33))), none⟩, ⟨(some 34), (.q (.extract 0 (.tmp 31))), none⟩, ⟨(some 35), (.q (.extract 1 (.tmp 31))), none⟩, ⟨(some 9), (.s (.alloc 25 [(.str (B [])), .nils, .nils])), none⟩, ⟨none, (.s (.store 3 (.tmp 9) (.tmp 34))), none⟩, ⟨(some 10), (.q (.move (.tmp 35))), none⟩]) 
    (.seq 
    (.region [⟨(some 36), (.q (.move (.tmp 2))), none⟩, ⟨(some 37), (.q (.bin .eql (.tmp 36) (.const (.int .i64 0)))), none⟩, ⟨(some 38), (.q (.move (.tmp 37))), none⟩, ⟨(some 39), (.q (.move (.tmp 4))), (some (38, true))⟩, ⟨(some 40), (.q (.bin .eql (.tmp 39) (.const (.int .i64 0)))), (some (38, true))⟩, ⟨(some 41), (.q (.pick (.tmp 38) (.tmp 40) (.const (.bool false)))), none⟩, ⟨(some 42), (.q (.move (.tmp 41))), none⟩, ⟨(some 43), (.q (.move (.tmp 6))), (some (42, true))⟩, ⟨(some 44), (.q (.pick (.tmp 42) (.tmp 43) (.const (.bool false)))), none⟩, ⟨(some 45), (.q (.move (.tmp 44))), none⟩, ⟨(some 46), (.q (.fieldAddr 1 (.tmp 5))), (some (45, true))⟩, ⟨(some 47), (.q (.load false 1 (.tmp 46))), (some (45, true))⟩, ⟨(some 48), (.q (.len false (.tmp 47))), (some (45, true))⟩, ⟨(some 49), (.q (.bin .eql (.tmp 48) (.const (.int .i64 1)))), (some (45, true))⟩, ⟨(some 50), (.q (.pick (.tmp 45) (.tmp 49) (.const (.bool false)))), none⟩, ⟨(some 51), (.q (.move (.tmp 50))), none⟩, ⟨(some 52), (.q (.move (.tmp 8))), (some (51, true))⟩, ⟨(some 53), (.q (.bin .eql (.tmp 52) (.const (.int .i64 0)))), (some (51, true))⟩, ⟨(some 54), (.q (.pick (.tmp 51) (.tmp 53) (.const (.bool false)))), none⟩, ⟨(some 55), (.q (.move (.tmp 54))), none⟩, ⟨(some 56), (.q (.fieldAddr 2 (.tmp 7))), (some (55, true))⟩, ⟨(some 57), (.q (.load false 1 (.tmp 56))), (some (55, true))⟩, ⟨(some 58), (.q (.len false (.tmp 57))), (some (55, true))⟩, ⟨(some 59), (.q (.bin .eql (.tmp 58) (.const (.int .i64 0)))), (some (55, true))⟩, ⟨(some 60), (.q (.pick (.tmp 55) (.tmp 59) (.const (.bool false)))), none⟩, ⟨(some 61), (.q (.move (.tmp 60))), none⟩, ⟨(some 62), (.q (.move (.tmp 10))), (some (61, true))⟩, ⟨(some 63), (.q (.bin .eql (.tmp 62) (.const (.int .i64 12)))), (some (61, true))⟩, ⟨(some 64), (.q (.pick (.tmp 61) (.tmp 63) (.const (.bool false)))), none⟩, ⟨(some 0), (.q (.move (.tmp 64))), none⟩]) .ret)))))))
theorem t7 : Told Tryd.prog 7 65 c7 [(.tmp 0)] := ⟨Tryd.f7, _, [], Tryd.func7, rfl, by kernel_rfl, rfl, by kernel_rfl, by kernel_rfl⟩
def c6 : ACode := 
    (.seq 
    (.region [⟨(some 1), (.s (.box 27 (.tmp 0))), none⟩, ⟨(some 2), (.q (.move (.const (.bool false)))), none⟩]) 
    (.seq 
    (.region [⟨(some 3), (.q (.fieldAddr 1 (.tmp 1))), none⟩, ⟨(some 4), (.q (.load false 1 (.tmp 3))), none⟩, ⟨(some 5), (.q (.len true (.tmp 4))), none⟩, ⟨(some 6), (.q (.bin .leq (.tmp 5) (.const (.int .i64 100)))), none⟩, ⟨(some 7), (.q (.move (.tmp 6))), none⟩, ⟨(some 8), (.q (.fieldAddr 2 (.tmp 1))), (some (7, true))⟩, ⟨(some 9), (.q (.load false 1 (.tmp 8))), (some (7, true))⟩, ⟨(some 10), (.q (.len true (.tmp 9))), (some (7, true))⟩, ⟨(some 11), (.q (.bin .leq (.tmp 10) (.const (.int .i64 300)))), (some (7, true))⟩, ⟨(some 12), (.q (.pick (.tmp 7) (.tmp 11) (.const (.bool false)))), none⟩, ⟨(some 2), (.q (.move (.tmp 12))), none⟩]) .ret))
theorem t6 : Told Tryd.prog 6 13 c6 [(.tmp 2)] := ⟨Tryd.f6, _, [], Tryd.func6, rfl, by kernel_rfl, rfl, by kernel_rfl, by kernel_rfl⟩
def c3 : ACode := 
    (.seq 
    (.region [⟨(some 3), (.s (.box 25 (.tmp 0))), none⟩, ⟨(some 5), (.s (.box 27 (.tmp 2))), none⟩, ⟨(some 6), (.q (.move (.const (.bool false)))), none⟩]) 
    (.seq 
    (.seq 
    (.region [⟨(some 14), (.q (.load true 3 (.tmp 3))), none⟩, ⟨(some 15), (.s (.call 5 [(.tmp 14)])), none⟩, ⟨(some 16), (.q (.un .not (.tmp 15))), none⟩, ⟨(some 17), (.q (.move (.tmp 16))), none⟩, ⟨(some 18), (.q (.move (.tmp 1))), (some (17, false))⟩, ⟨(some 19), (.q (.len true (.tmp 18))), (some (17, false))⟩, ⟨(some 20), (.q (.bin .gtr (.tmp 19) (.const (.int .i64 200)))), (some (17, false))⟩, ⟨(some 21), (.q (.pick (.tmp 17) (.const (.bool true)) (.tmp 20))), none⟩, ⟨(some 22), (.q (.move (.tmp 21))), none⟩, ⟨(some 23), (.q (.load true 3 (.tmp 5))), (some (22, false))⟩, ⟨(some 24), (.s (.call 6 [(.tmp 23)])), (some (22, false))⟩, ⟨(some 25), (.q (.un .not (.tmp 24))), (some (22, false))⟩, ⟨(some 26), (.q (.pick (.tmp 22) (.const (.bool true)) (.tmp 25))), none⟩]) 
    (.cond (.tmp 26) 
    (.seq 
    (.region [⟨(some 27), (.s (.call 7 [])), none⟩, ⟨(some 6), (.q (.move (.tmp 27))), none⟩]) .ret) .skip)) 
    (.seq 
    (.region [⟨(some 28), (.q (.load true 3 (.tmp 3))), none⟩, ⟨(some 29), (.s (.call 8 [(.tmp 28)])), none⟩, ⟨(some 7), (.q (.move (.tmp 29))), none⟩]) 
    (.seq 
    (.region [⟨(some 31), (.q (.load true 3 (.tmp 3))), none⟩, ⟨(some 32), (.q (.move (.tmp 1))), none⟩, ⟨(some 33), (.q (.load true 3 (.tmp 5))), none⟩, ⟨(some 34), (.s (.call 9 [(.tmp 31), (.tmp 32), (.tmp 33)])), none⟩, ⟨(some 30), (.q (.move (.tmp 34))), none⟩, ⟨(some 35), (.q (.extract 0 (.tmp 30))), none⟩, ⟨(some 36), (.q (.extract 1 (.tmp 30))), none⟩, ⟨(some 8), (.s (.alloc 25 [(.str (B [])), .nils, .nils])), none⟩, ⟨none, (.s (.store 3 (.tmp 8) (.tmp 35))), none⟩, ⟨(some 9), (.q (.move (.tmp 36))), none⟩]) 
    (.seq 
    (.region [⟨(some 38), (.q (.load true 3 (.tmp 3))), none⟩, ⟨(some 39), (.q (.move (.tmp 1))), none⟩, ⟨(some 40), (.q (.load true 3 (.tmp 5))), none⟩, ⟨(some 41), (.s (.call 10 [(.tmp 38), (.tmp 39), (.tmp 40)])), none⟩, ⟨(some 37), (.q (.move (.tmp 41))), none⟩, ⟨(some 42), (.q (.extract 0 (.tmp 37))), none⟩, ⟨(some 43), (.q (.extract 1 (.tmp 37))), none⟩, ⟨(some 10), (.s (.alloc 25 [(.str (B [])), .nils, .nils])), none⟩, ⟨none, (.s (.store 3 (.tmp 10) (.tmp 42))), none⟩, ⟨(some 11), (.q (.move (.tmp 43))), none⟩]) 
    (.seq 
    (.region [⟨(some 44), (.q (.load true 3 (.tmp 3))), none⟩, ⟨(some 45), (.s (.call 8 [(.tmp 44)])), none⟩, ⟨(some 12), (.q (.move (.tmp 45))), none⟩]) 
    (.seq 
    (.seq 
    (.region [⟨(some 46), (.q (.move (.tmp 7))), none⟩, ⟨(some 47), (.q (.len false (.tmp 46))), none⟩, ⟨(some 48), (.q (.move (.tmp 12))), none⟩, ⟨(some 49), (.q (.len false (.tmp 48))), none⟩, ⟨(some 50), (.q (.bin .neq (.tmp 47) (.tmp 49))), none⟩]) 
    (.cond (.tmp 50) 
    (.seq 
    (.region [⟨(some 6), (.q (.move (.const (.bool false)))), none⟩]) .ret) .skip)) 
    (.seq 
    (.seq 
    (.region [⟨(some 13), (.q (.move (.const (.int .i64 0)))), none⟩]) 
    (.block 0 
    (.loop 
    (.seq 
    (.seq 
    (.region [⟨(some 51), (.q (.move (.tmp 13))), none⟩, ⟨(some 52), (.q (.move (.tmp 7))), none⟩, ⟨(some 53), (.q (.len false (.tmp 52))), none⟩, ⟨(some 54), (.q (.bin .lss (.tmp 51) (.tmp 53))), none⟩, ⟨(some 55), (.q (.move (.tmp 54))), none⟩, ⟨(some 56), (.q (.move (.tmp 13))), (some (55, true))⟩, ⟨(some 57), (.q (.move (.tmp 12))), (some (55, true))⟩, ⟨(some 58), (.q (.len false (.tmp 57))), (some (55, true))⟩, ⟨(some 59), (.q (.bin .lss (.tmp 56) (.tmp 58))), (some (55, true))⟩, ⟨(some 60), (.q (.pick (.tmp 55) (.tmp 59) (.const (.bool false)))), none⟩]) 
    (.cond (.tmp 60) .skip (.exit 0))) 
    (.seq 
    (.block 1 
    (.seq 
    (.region [⟨(some 63), (.q (.move (.tmp 7))), none⟩, ⟨(some 64), (.q (.move (.tmp 13))), none⟩, ⟨(some 65), (.q (.idxSl 3 (.tmp 63) (.tmp 64))), none⟩, ⟨(some 66), (.q (.load true 3 (.tmp 65))), none⟩, ⟨(some 67), (.q (.move (.tmp 12))), none⟩, ⟨(some 68), (.q (.move (.tmp 13))), none⟩, ⟨(some 69), (.q (.idxSl 3 (.tmp 67) (.tmp 68))), none⟩, ⟨(some 70), (.q (.load true 3 (.tmp 69))), none⟩, ⟨(some 71), (.q 
    (.seq [(.i .i64), .s, .s] true (.tmp 66) (.tmp 70))), none⟩]) 
    (.cond (.tmp 71) 
    (.seq 
    (.region [⟨(some 6), (.q (.move (.const (.bool false)))), none⟩]) .ret) .skip))) 
    (.region [⟨(some 61), (.q (.move (.tmp 13))), none⟩, ⟨(some 62), (.q (.bin .add (.tmp 61) (.const (.int .i64 1)))), none⟩, ⟨(some 13), (.q (.move (.tmp 62))), none⟩])))))) 
    (.seq 
    (.region [⟨(some 72), (.q (.load true 3 (.tmp 8))), none⟩, ⟨(some 73), (.q (.load true 3 (.tmp 10))), none⟩, ⟨(some 74), (.s (.call 11 [(.tmp 72), (.tmp 73)])), none⟩, ⟨(some 75), (.q (.move (.tmp 74))), none⟩, ⟨(some 76), (.q (.move (.tmp 9))), (some (75, true))⟩, ⟨(some 77), (.q (.move (.tmp 11))), (some (75, true))⟩, ⟨(some 78), (.q (.bin .eql (.tmp 76) (.tmp 77))), (some (75, true))⟩, ⟨(some 79), (.q (.pick (.tmp 75) (.tmp 78) (.const (.bool false)))), none⟩, ⟨(some 80), (.q (.move (.tmp 79))), none⟩, ⟨(some 81), (.s (.call 7 [])), (some (80, true))⟩, ⟨(some 82), (.q (.pick (.tmp 80) (.tmp 81) (.const (.bool false)))), none⟩, ⟨(some 6), (.q (.move (.tmp 82))), none⟩]) .ret)))))))))
theorem t3 : Told Tryd.prog 3 83 c3 [(.tmp 6)] := ⟨Tryd.f3, _, [], Tryd.func3, rfl, by kernel_rfl, rfl, by kernel_rfl, by kernel_rfl⟩
structure Tk where
  kind : Int
  name : List UInt8
  value : List UInt8
def Tk.V (k : Tk) : AV := .agg [.int .i64 k.kind, .str (B k.name), .str (B k.value)]
theorem Tk.V_cells (k : Tk) : k.V.cells = [.int .i64 k.kind, .str (B k.name), .str (B k.value)] := rfl
theorem tk_len (l : List Tk) : ∀ x ∈ l.map Tk.V, x.cells.length = 3 := fun x hx => by
  obtain ⟨k, _, rfl⟩ := List.mem_map.1 hx
  rfl
theorem tk_one (l : List Tk) : ((l.map Tk.V).flatMap AV.cells).all AV.one = true := by
  rw [List.all_eq_true]
  intro x hx
  obtain ⟨y, hy, hx⟩ := List.mem_flatMap.1 hx
  obtain ⟨k, _, rfl⟩ := List.mem_map.1 hy
  rw [Tk.V_cells] at hx
  simp only [List.mem_cons, List.mem_nil_iff, or_false] at hx
  rcases hx with rfl | rfl | rfl <;> rfl
theorem tk_u (n : Nat) (l : List Tk) : AllC n (l.map Tk.V) := uc_map n l (fun k => by rw [Tk.V_cells]; simp only [u_top, u_bool, u_int, u_str, u_nilp, u_nils, u_nilf, u_nilm, u_nili, u_emp, u_byteV, u_ptr, u_wr, u_wc, u_agg, u_tup, u_rd, u_imm, u_func, u_nil, u_cons, u_app, uc_nil, uc_cons, uc_app, u_bytes, uc_bytes, u_ints, uc_ints, cells_bool, cells_int, cells_str, cells_agg, cells_ptr, cells_nils, cells_imm, cells_wr, cells_wc, cells_nilp, cells_nilf, cells_nilm, cells_rd, cells_emp, cells_byteV, cells_func, and_self, and_true, true_and, u_slA, uc_strs, cells_slA, strV_is])
theorem tk_at {l : List Tk} {i : Nat} (h : i < l.length) : (l.map Tk.V)[i]? = some (Tk.V (l.getD i ⟨0, [], []⟩)) := by
  rw [List.getElem?_map, List.getD_eq_getElem?_getD, List.getElem?_eq_getElem h]
  rfl
def tkP (p : List UInt8 × List UInt8) : Tk := ⟨3, p.1, p.2⟩
def tokL : Nat → Tr → List Tk
  | 0, _ => []
  | l + 1, t => ⟨1, t.name, []⟩ :: t.props.map tkP ++ t.kids.flatMap (tokL l) ++ [⟨2, [], []⟩]
theorem tokL_len : ∀ (l m : Nat) (t : Tr), l ≤ m → tsize m t ≤ 400 → (tokL l t).length ≤ 2 * tsize m t
  | 0, m, t, _, _ => by rw [tokL]; simp
  | l + 1, 0, t, h, _ => by omega
  | l + 1, m + 1, t, h, hs => by
    rw [tsize] at hs ⊢
    have e := szLoop_sum (tsize m) t.kids (1 + t.props.length) (by omega)
    have := flat_len_le (tokL l) (fun k => 2 * tsize m k) t.kids (fun k hk => tokL_len l m k (by omega) (by have := sum_le (f := tsize m) hk; omega))
    have e2 : ∀ ks : List Tr, (ks.map (fun k => 2 * tsize m k)).sum = 2 * (ks.map (tsize m)).sum := fun ks => by
      induction ks with
      | nil => rfl
      | cons k ks ih => rw [List.map_cons, List.map_cons, List.sum_cons, List.sum_cons, ih]; omega
    rw [e2] at this
    rw [tokL]
    simp only [List.length_append, List.length_cons, List.length_nil, List.length_map]
    omega
theorem map_step {α β : Type} (f : α → β) {l : List α} {i : Nat} {d : α} (h : i < l.length) : (l.take (i + 1)).map f = (l.take i).map f ++ [f (l.getD i d)] := by
  rw [List.take_add_one, List.getElem?_eq_getElem h, List.map_append, List.getD_eq_getElem?_getD, List.getElem?_eq_getElem h]
  rfl
section
variable {H : AHeap} {K : AV → AHeap → Prop}
theorem tokens_a : ∀ (l m : Nat) (t : Tr) (H : AHeap) (K : AV → AHeap → Prop), l ≤ m → m ≤ 100 → TrM 1000 t → tsize m t ≤ 400 → (∀ k, K (slA k 3 ((tokL l t).map Tk.V)) H) → (ACalls Tryd.prog) 22 [t.V, .int .i64 (l : Int)] H K
  | 0, m, t, H, K, hlm, hm, ho, hsz, h => by
    refine acalls_go mo t22 (fun hs hu => ?_)
    have hx := h 0
    rw [tokL] at hx
    have hx : K .nils H := hx
    simp only [c22, Tr.V_is, Int.ofNat_zero, Int.natCast_zero, go_sem, Nat.reduceLeDiff, Nat.reduceAdd, Nat.reduceSub, Nat.reduceMul, Nat.reduceLT, Int.reduceLT, Int.reduceLE, Int.reduceAdd, Int.reduceSub, Int.reduceMul, Int.reduceToNat, Int.reduceNeg, Int.reduceEq, Nat.reducePow, Int.reducePow, Nat.reduceEqDiff, decide_true, decide_false, reduceIte, reduceCtorEq, Int.reduceBEq, Int.reduceBNe, bne_self_eq_false, Int.cast_ofNat_Int, Bool.not_true, Bool.not_false, IntKind.bits]
    exact aret_u hs (hx)
  | l + 1, 0, t, H, K, hlm, hm, ho, hsz, h => by omega
  | l + 1, m + 1, t, H, K, hlm, hm, ho, hsz, h => by
    refine acalls_go mo t22 (fun hs hu => ?_)
    have ih := tokens_a l m
    have hpl := ho.p
    have hkl := ho.k
    have hlen := tokL_len (l + 1) (m + 1) t hlm hsz
    rw [tokL] at h hlen
    simp only [List.length_append, List.length_cons, List.length_nil, List.length_map] at hlen
    have hksz : ∀ k ∈ t.kids, tsize m k ≤ 400 := fun k hk => by
      rw [tsize] at hsz
      have e := szLoop_sum (tsize m) t.kids (1 + t.props.length) (by omega)
      have := sum_le (f := tsize m) hk
      omega
    have hcell : ∀ x : Tk, [AV.int .i64 x.kind, .str (B x.name), .str (B x.value)] = ([x].map Tk.V).flatMap AV.cells := fun x => by
      rw [List.map_cons, List.map_nil, List.flatMap_cons, List.flatMap_nil, List.append_nil, Tk.V_cells]
    have hone : ∀ x : Tk, [AV.agg [.int .i64 x.kind, .str (B x.name), .str (B x.value)]] = [x].map Tk.V := fun x => rfl
    simp only [c22, Tr.V_is, go_sem, Nat.reduceLeDiff, Nat.reduceAdd, Nat.reduceSub, Nat.reduceMul, Nat.reduceLT, Int.reduceLT, Int.reduceLE, Int.reduceAdd, Int.reduceSub, Int.reduceMul, Int.reduceToNat, Int.reduceNeg, Int.reduceEq, Nat.reducePow, Int.reducePow, Nat.reduceEqDiff, decide_true, decide_false, reduceIte, reduceCtorEq, Int.reduceBEq, Int.reduceBNe, bne_self_eq_false, Int.cast_ofNat_Int, Bool.not_true, Bool.not_false, IntKind.bits]
    refine stp0 ?_
    have hrow : AObj.row 36 0 [AV.int .i64 1, .str (B t.name), .str (B [])] = .row 36 0 (([(⟨1, t.name, []⟩ : Tk)].map Tk.V).flatMap AV.cells) := by rw [← hcell]
    rw [hrow, ← hp_nil (H := hp H _)]
    have hv0 : SlAt (H.next + 1) (hp H [trRow t, .row 36 0 (([(⟨1, t.name, []⟩ : Tk)].map Tk.V).flatMap AV.cells)]) 36 3 (.wr (H.next + 1) 0 0 1 3) ([(⟨1, t.name, []⟩ : Tk)].map Tk.V) := .inr ⟨H.next + 1, 0, rfl, by omega, hp_get _ _ 1⟩
    have happ : ∀ (G : AHeap) (v2 : AV) (xs ys : List Tk) (kk : Nat), SlAt (H.next + 1) G 36 3 v2 (xs.map Tk.V) → Past H G → H.next + 1 ≤ G.next → xs.length + ys.length ≤ 1000 → G.get (H.next + 0) = some (trRow t) → ∃ v3 G3, aapp 36 3 40 G v2 (slA kk 3 (ys.map Tk.V)) = some (v3, hp G3 []) ∧ SlAt (H.next + 1) G3 36 3 v3 ((xs ++ ys).map Tk.V) ∧ (Past H G3 ∧ H.next + 1 ≤ G3.next) ∧ G3.get (H.next + 0) = some (trRow t) := fun G v2 xs ys kk hv2 hG hGn hl hg0 => by
      obtain ⟨v3, G3, q1, q2, q3⟩ := slat_app (b := 40) (ys := ys.map Tk.V) hv2 hGn (tk_len _) (tk_one _) (by simp only [List.length_map]; omega)
      rw [← List.map_append] at q2
      refine ⟨v3, G3, ?_, q2, ⟨beside_past q3 (by omega) hG, Nat.le_trans hGn q3.next⟩, q3.other _ _ hg0 (slat_nid hv2 (by omega))⟩
      rw [← q1]
      unfold aapp
      rw [slA_cells, acells_imm, if_pos rfl]
    have hsh : ∀ (x : Tk) , slA 2 3 ([x].map Tk.V) = .imm 3 [.agg [.int .i64 x.kind, .str (B x.name), .str (B x.value)]] := fun x => rfl
    refine go_loopS mono (σ := AHeap × AV × Nat) (fun z => [(5, z.2.1), (6, .int .i64 (z.2.2 : Int))]) (fun z => hp z.1 []) (fun z => SlAt (H.next + 1) z.1 36 3 z.2.1 ((⟨1, t.name, []⟩ :: (t.props.take z.2.2).map tkP).map Tk.V) ∧ (Past H z.1 ∧ H.next + 1 ≤ z.1.next) ∧ z.1.get (H.next + 0) = some (trRow t) ∧ z.2.2 ≤ t.props.length) (fun z => t.props.length - z.2.2) (hp H [trRow t, .row 36 0 (([(⟨1, t.name, []⟩ : Tk)].map Tk.V).flatMap AV.cells)], .wr (H.next + 1) 0 0 1 3, 0) ?_ rfl ⟨hv0, ⟨past_hp past_refl _, by show H.next + 1 ≤ H.next + 2; omega⟩, hp_get _ _ 0, Nat.zero_le _⟩ (fun z hz J hJ => ?_)
    · exact fgt
    obtain ⟨G, v2, i⟩ := z
    obtain ⟨hv2, ⟨hG, hGn⟩, hg0, hil⟩ := hz
    simp only at hv2 hG hGn hg0 hil
    have hl0 := G.lt hg0
    have hg0' := hg0
    rw [trRow_is] at hg0'
    simp only [blurR_nil, blurR_some, blurR_none, blurC_region, blurC_regionN, blurC_fregion, blurT_nil, blurT_cons, blurC_seq, blurC_both, blurC_cond, blurC_block, blurC_loop, blurC_skip, blurC_exit, blurC_ret, tellS_nil, tellS_cons, List.set_cons_zero, List.set_cons_succ, tops_zero, tops_succ]
    by_cases h1 : i < t.props.length
    · have ha := prop_at h1
      have hst := map_step tkP (d := ([], [])) h1
      have hJ2 := fun (G2 : AHeap) (v3 : AV) p1 p2 p3 a' => hJ (G2, v3, i + 1) a' ⟨p1, p2, p3, h1⟩ (by show t.props.length - (i + 1) < t.props.length - i; omega)
      clear hJ
      simp only [hst] at hJ2
      have hlt : ((t.props.take i).map tkP).length ≤ t.props.length := by rw [List.length_map, List.length_take]; omega
      generalize t.props.getD i ([], []) = q at *
      generalize (t.props.take i).map tkP = ys at *
      obtain ⟨v3, G3, q1, q2, q3, q4⟩ := happ (hp G []) v2 _ [tkP q] 2 (slat_hp hv2 []) (past_hp hG []) (by rw [hp_nil]; exact hGn) (by simp only [List.length_cons, List.length_nil]; omega) (by rw [hp_nil]; exact hg0)
      rw [hsh] at q1
      have q1 : aapp 36 3 40 (hp G []) v2 (.imm 3 [.agg [.int .i64 3, .str (B q.1), .str (B q.2)]]) = some (v3, hp G3 []) := q1
      refine stp (And.intro ha (And.intro hg0' (And.intro q1 @propV_cells))) ?_
      exact hJ2 G3 v3 q2 q3 q4 _ fgt
    · rw [List.take_of_length_le (by omega)] at hv2
      refine stp hg0' ?_
      clear hJ
      generalize hps : t.props.map tkP = ps at *
      have hpsl : ps.length = t.props.length := by rw [← hps, List.length_map]
      refine go_loopS mono (σ := AHeap × AV × Nat) (fun z => [(5, z.2.1), (7, .int .i64 (z.2.2 : Int))]) (fun z => hp z.1 []) (fun z => SlAt (H.next + 1) z.1 36 3 z.2.1 ((⟨1, t.name, []⟩ :: ps ++ (t.kids.take z.2.2).flatMap (tokL l)).map Tk.V) ∧ (Past H z.1 ∧ H.next + 1 ≤ z.1.next) ∧ z.1.get (H.next + 0) = some (trRow t) ∧ z.2.2 ≤ t.kids.length) (fun z => t.kids.length - z.2.2) (G, v2, 0) ?_ rfl ⟨by rw [List.take_zero, List.flatMap_nil, List.append_nil]; exact hv2, ⟨hG, hGn⟩, hg0, Nat.zero_le _⟩ (fun z hz J hJ => ?_)
      · exact fgt
      clear hv2 hG hGn hg0 hl0 hg0'
      obtain ⟨G, v2, i⟩ := z
      obtain ⟨hv2, ⟨hG, hGn⟩, hg0, hil⟩ := hz
      simp only at hv2 hG hGn hg0 hil
      have hl0 := G.lt hg0
      have hg0' := hg0
      rw [trRow_is] at hg0'
      simp only [blurR_nil, blurR_some, blurR_none, blurC_region, blurC_regionN, blurC_fregion, blurT_nil, blurT_cons, blurC_seq, blurC_both, blurC_cond, blurC_block, blurC_loop, blurC_skip, blurC_exit, blurC_ret, tellS_nil, tellS_cons, List.set_cons_zero, List.set_cons_succ, tops_zero, tops_succ]
      by_cases h1 : i < t.kids.length
      · have ha := tr_at h1
        have hok := ho.ks _ (tr_mem h1)
        have hks := hksz _ (tr_mem h1)
        have hst := flat_step (tokL l) (d := tr0) h1
        have hle := flat_take_le (tokL l) t.kids (i + 1)
        have hJ2 := fun (G2 : AHeap) (v3 : AV) p1 p2 p3 a' => hJ (G2, v3, i + 1) a' ⟨p1, p2, p3, h1⟩ (by show t.kids.length - (i + 1) < t.kids.length - i; omega)
        clear hJ
        simp only [hst] at hJ2
        rw [hst, List.length_append] at hle
        generalize t.kids.getD i tr0 = k at *
        generalize (t.kids.take i).flatMap (tokL l) = ys at *
        have hVc := Tr.V_cells k
        have hVi := Tr.V_is k
        refine stp (And.intro ha (And.intro hg0' hVc)) ?_
        rw [← hVi]
        refine ih k _ _ (by omega) (by omega) hok hks (fun kk => ?_)
        obtain ⟨v3, G3, q1, q2, q3, q4⟩ := happ (hp G []) v2 _ (tokL l k) kk (slat_hp hv2 []) (past_hp hG []) (by rw [hp_nil]; exact hGn) (by simp only [List.length_append, List.length_cons]; omega) (by rw [hp_nil]; exact hg0)
        refine stp q1 ?_
        refine hJ2 G3 v3 ?_ q3 q4 _ fgt
        rw [← List.append_assoc]
        exact q2
      · rw [List.take_of_length_le (by omega)] at hv2
        obtain ⟨v3, G3, q1, q2, q3, q4⟩ := happ (hp G []) v2 _ [⟨2, [], []⟩] 2 (slat_hp hv2 []) (past_hp hG []) (by rw [hp_nil]; exact hGn) (by simp only [List.length_append, List.length_cons, List.length_nil]; omega) (by rw [hp_nil]; exact hg0)
        rw [hsh] at q1
        have q1 : aapp 36 3 40 (hp G []) v2 (.imm 3 [.agg [.int .i64 2, .str (B []), .str (B [])]]) = some (v3, hp G3 []) := q1
        refine stp (And.intro hg0' q1) ?_
        rw [hp_nil]
        exact slat_ret (slat_low q2 (by omega)) (tk_len _) q3.1 hs (tk_u _ _) h
theorem Tokens_a {t : Tr} (ht : TrM 1000 t) (hsz : tsize 12 t ≤ 400) (h : ∀ k, K (slA k 3 ((tokL 8 t).map Tk.V)) H) : (ACalls Tryd.prog) 8 [t.V] H K := by
  refine acalls_go mo t8 (fun hs hu => ?_)
  have hVi := Tr.V_is t
  simp only [c8, Tr.V_is, go_sem, Nat.reduceLeDiff, Nat.reduceAdd, Nat.reduceSub, Nat.reduceMul, Nat.reduceLT, Int.reduceLT, Int.reduceLE, Int.reduceAdd, Int.reduceSub, Int.reduceMul, Int.reduceToNat, Int.reduceNeg, Int.reduceEq, Nat.reducePow, Int.reducePow, Nat.reduceEqDiff, decide_true, decide_false, reduceIte, reduceCtorEq, Int.reduceBEq, Int.reduceBNe, bne_self_eq_false, Int.cast_ofNat_Int, Bool.not_true, Bool.not_false, IntKind.bits]
  rw [← hVi]
  refine tokens_a 8 12 t _ _ (by omega) (by omega) ht hsz (fun k => ?_)
  refine stp0 ?_
  refine aret_plain hs ?_ (h k)
  rw [u_slA]
  exact tk_u _ _
end
/-! ### how much there is -/
/-! ### how deep it is -/
end Go.Proofs.YtdknpnmdjjmapaaDoor.AL
