/- The document's paths told: the node at a path. -/
import Derived.Test.YtdknpnmdjjmapaaDoorQEditKeepsALMT4
import Derived.Test.YtdknpnmdjjmapaaDoorQEditKeepsALA3
import Derived.Test.YtdknpnmdjjmapaaDoorQEditKeepsALDSuf
import Derived.Test.YtdknpnmdjjmapaaDoorProg
import Derived.KernelRfl
import Derived.Test.YtdknpnmdjjmapaaDoorQEditKeepsALA4
import Derived.Test.YtdknpnmdjjmapaaDoorQEditKeepsALTree1
import Derived.Shelf.Lay
import Derived.Shelf.Strings.OnBuilder
set_option linter.unusedSimpArgs false
set_option linter.unusedVariables false
set_option maxRecDepth 100000
set_option maxHeartbeats 16000000
namespace Go.Proofs.YtdknpnmdjjmapaaDoor.AL
open Go Go.Proofs
attribute [local go_sem] go_seq go_skip go_region go_regionN go_fregion rgF_some go_cond go_block go_exit go_ret nxt_nil nxt_code nxt_blk nxt_cut leave_nil leave_code leave_cut leave_blk rtn_nil rtn_code rtn_blk rtn_cut cnd_t cnd_f rgn_nil rgY_some rgY_none rgH_some rgP_some retTo_is rgV_func grd_und grd_tt grd_ff grd_tf grd_ft rgn_q rgn_alloc rgn_box rgn_store rgn_lit rgn_litw litCells_nil litCells_cons rgn_app rgn_copy rgn_mk rgn_s2b rgn_call rgn_callv rgn_stop rgn_slice3 aslice3 rgn_slice3l aslice3l rgn_appz rgn_clear rgn_range rgn_next arange acap rgn_put rgn_mkmap rgn_lookup rgn_mapup alookup_nilm alookup_map amapup_map afound_ok afound_no rgn_c rgn_cv qclV_func aloadr rgn_guard post_ret post_normal retY_some ares aresL ares1 AX.ev aput List.getD_cons_zero List.getD_cons_succ List.set_cons_zero List.set_cons_succ List.map_cons List.map_nil aq abin aint astr abeq aconv asame aextract alenS alenL_nils alenL_emp alenL_imm alenL_wr alenL_wc aun apart aload afieldAddr afield aidxSl_wr aidxSl_wc aidxSl_imm aidxPt aidxStr aidxArr abound asliceStr asliceSl asliceArr abest anonil afill astore acells_nils acells_emp acells_imm acells_wr acells_wc acells_str acopy litAll amk as2b anil nilOf aseq aeqs aeqv fits fit1 hp_next hp_push hp_get hp_set List.length_cons List.length_nil List.getElem?_cons_zero List.getElem?_cons_succ List.cons_append List.nil_append List.append_nil List.take_succ_cons List.take_zero List.drop_succ_cons List.drop_zero List.all_cons List.all_nil Option.map_some Option.some.injEq Bool.and_true Bool.true_and Bool.false_eq_true if_true if_false ite_true ite_false Bool.and_self true_and and_true and_self Nat.zero_add Nat.le_refl Int.toNat_natCast beq_self_eq_true eq_self tops_zero tops_succ Int.natCast_nonneg List.take_nil List.drop_nil Option.map_none flat_bool one_bool cells_bool flat_int one_int cells_int flat_str one_str cells_str flat_nilp one_nilp cells_nilp flat_ptr one_ptr cells_ptr flat_nils one_nils cells_nils flat_imm one_imm cells_imm flat_wr one_wr cells_wr flat_wc one_wc cells_wc flat_func one_func cells_func flat_nilf one_nilf cells_nilf flat_map one_map cells_map flat_nilm one_nilm cells_nilm flat_iface one_iface cells_iface flat_nili one_nili cells_nili flat_rd one_rd cells_rd flat_emp one_emp cells_emp flat_byteV one_byteV cells_byteV flat_agg cells_agg one_agg B_size B_list B_ext B_toList B_app List.take_length Int.le_refl
theorem walkTo_ok : ∀ {ns : List (List UInt8)} {t k : Tr}, TrOk t → walkTo t ns = some k → TrOk k
  | [], t, k, ho, h => by
    rw [walkTo] at h
    obtain rfl := Option.some.inj h
    exact ho
  | n :: ns, t, k, ho, h => by
    rw [walkTo] at h
    split at h
    · rename_i c hc
      exact walkTo_ok (kidT_ok ho hc) h
    · cases h
theorem scanP_le : ∀ (rest cur : List UInt8) (out ns : List (List UInt8)), out.length ≤ 7 → scanP cur out rest = some ns → ns.length ≤ 8
  | [], cur, out, ns, ho, h => by
    rw [scanP] at h
    split at h
    · cases h
    · obtain rfl := Option.some.inj h
      rw [List.length_append, List.length_singleton]
      omega
  | c :: rest, cur, out, ns, ho, h => by
    rw [scanP] at h
    split at h
    · split at h
      · cases h
      · rename_i q
        exact scanP_le rest _ _ ns (by have := fun e => q (.inr e); rw [List.length_append, List.length_singleton]; omega) h
    · exact scanP_le rest _ _ ns ho h
theorem partsP_le {p : List UInt8} {ns : List (List UInt8)} (h : partsP p = some ns) : ns.length ≤ 8 := by
  unfold partsP at h
  split at h
  · obtain rfl := Option.some.inj h
    exact Nat.zero_le _
  · split at h
    · exact scanP_le _ _ _ ns (Nat.zero_le _) h
    · cases h
theorem tr0_V : tr0.V = .agg [.str (B []), .nils, .nils] := rfl
theorem find_a {t : Tr} (ho : TrOk t) {p : List UInt8} (hl : p.length < 9223372036854775807) {H : AHeap} {K : AV → AHeap → Prop} (h : K (foundV (findT t p)) H) : (ACalls Tryd.prog) 13 [t.V, .str (B p)] H K := by
  refine acalls_go mo t13 (fun hs hu => ?_)
  have hno : findT t p = none → K (.tup [.agg [.str (B []), .nils, .nils], .bool false]) H := fun e => by
    rw [e] at h
    exact h
  have hyes : ∀ k, findT t p = some k → K (.tup [.agg [.str (B k.name), slA k.kp 2 (k.props.map propV), slA k.kk 3 (k.kids.map Tr.V)], .bool true]) H := fun k e => by
    rw [e] at h
    rw [← Tr.V_is]
    exact h
  clear h
  unfold findT at hno hyes
  simp only [c13, Tr.V_is, go_sem, Nat.reduceLeDiff, Nat.reduceAdd, Nat.reduceSub, Nat.reduceMul, Nat.reduceLT, Int.reduceLT, Int.reduceLE, Int.reduceAdd, Int.reduceSub, Int.reduceMul, Int.reduceToNat, Int.reduceNeg, Int.reduceEq, Nat.reducePow, Int.reducePow, Nat.reduceEqDiff, decide_true, decide_false, reduceIte, reduceCtorEq, Int.reduceBEq, Int.reduceBNe, bne_self_eq_false, Int.cast_ofNat_Int, Bool.not_true, Bool.not_false, IntKind.bits]
  refine parts_a hl (fun kk => ?_)
  cases hp1 : partsP p with
  | none =>
    rw [hp1] at hno
    have := hno rfl
    refine stp0 ?_
    exact aret_plain hs (by simp only [u_top, u_bool, u_int, u_str, u_nilp, u_nils, u_nilf, u_nilm, u_nili, u_emp, u_byteV, u_ptr, u_wr, u_wc, u_agg, u_tup, u_rd, u_imm, u_func, u_nil, u_cons, u_app, uc_nil, uc_cons, uc_app, u_bytes, uc_bytes, u_ints, uc_ints, cells_bool, cells_int, cells_str, cells_agg, cells_ptr, cells_nils, cells_imm, cells_wr, cells_wc, cells_nilp, cells_nilf, cells_nilm, cells_rd, cells_emp, cells_byteV, cells_func, and_self, and_true, true_and, u_slA, uc_strs, cells_slA, strV_is]) this
  | some ns =>
    rw [hp1] at hno hyes
    simp only at hno hyes
    have hn8 := partsP_le hp1
    refine stp0 ?_
    refine go_loopS mono (σ := AHeap × Tr × Nat) (fun z => [(8, .int .i64 (z.2.2 : Int))]) (fun z => hp z.1 []) (fun z => Past H z.1 ∧ z.1.get (H.next + 0) = some (trRow z.2.1) ∧ (∃ o, z.1.get (H.next + 1) = some (trRow o)) ∧ TrOk z.2.1 ∧ walkTo z.2.1 (ns.drop z.2.2) = walkTo t ns ∧ z.2.2 ≤ ns.length) (fun z => ns.length - z.2.2) (hp H [trRow t, trRow tr0], t, 0) ?_ ?_ ⟨past_hp past_refl _, hp_get _ _ 0, ⟨_, hp_get _ _ 1⟩, ho, rfl, Nat.zero_le _⟩ (fun z hz J hJ => ?_)
    · exact fgt
    · rw [hp_nil]
      rfl
    obtain ⟨G, cur, i⟩ := z
    obtain ⟨hG, hg0, ⟨o1, hg1⟩, hok, hw, hil⟩ := hz
    simp only at hG hg0 hg1 hok hw hil
    have hl0 := G.lt hg0
    have hl1 := G.lt hg1
    have hg0' := hg0
    have hg1' := hg1
    rw [trRow_is] at hg0' hg1'
    simp only [blurR_nil, blurR_some, blurR_none, blurC_region, blurC_regionN, blurC_fregion, blurT_nil, blurT_cons, blurC_seq, blurC_both, blurC_cond, blurC_block, blurC_loop, blurC_skip, blurC_exit, blurC_ret, tellS_nil, tellS_cons, List.set_cons_zero, List.set_cons_succ, tops_zero, tops_succ]
    by_cases h1 : i < ns.length
    · have ha := strs_at h1
      have hd : ns.drop i = ns.getD i [] :: ns.drop (i + 1) := by rw [List.drop_eq_getElem_cons h1, List.getD_eq_getElem?_getD, List.getElem?_eq_getElem h1]; rfl
      rw [hd, walkTo] at hw
      generalize ns.getD i [] = n at *
      have hVi := Tr.V_is cur
      refine stp (And.intro ha hg0') ?_
      rw [← hVi]
      refine kid_a hok ?_
      cases hk : kidT cur n with
      | none =>
        rw [hk] at hw
        have := hno hw.symm
        unfold foundV
        rw [tr0_V]
        refine stp (And.intro hg0' hg1') ?_
        exact aret_past (past_hp (past_set hG (by omega) _) _) hs (by simp only [u_top, u_bool, u_int, u_str, u_nilp, u_nils, u_nilf, u_nilm, u_nili, u_emp, u_byteV, u_ptr, u_wr, u_wc, u_agg, u_tup, u_rd, u_imm, u_func, u_nil, u_cons, u_app, uc_nil, uc_cons, uc_app, u_bytes, uc_bytes, u_ints, uc_ints, cells_bool, cells_int, cells_str, cells_agg, cells_ptr, cells_nils, cells_imm, cells_wr, cells_wc, cells_nilp, cells_nilf, cells_nilm, cells_rd, cells_emp, cells_byteV, cells_func, and_self, and_true, true_and, u_slA, uc_strs, cells_slA, strV_is]) this
      | some k =>
        rw [hk] at hw
        simp only at hw
        have hko := kidT_ok hok hk
        have hfv : foundV (some k) = .tup [.agg [.str (B k.name), slA k.kp 2 (k.props.map propV), slA k.kk 3 (k.kids.map Tr.V)], .bool true] := by
          rw [← Tr.V_is k]
          rfl
        rw [hfv]
        refine stp (And.intro hg0' hg1') ?_
        rw [← hp_nil (H := hp (G.set _ _) _)]
        refine hJ (hp (G.set (H.next + 0) (trRow k)) _, k, i + 1) _ ⟨past_hp (past_set hG (by omega) _) _, ?_, ?_, hko, hw, h1⟩ (by show ns.length - (i + 1) < ns.length - i; omega) fgt
        · show (hp (G.set (H.next + 0) (trRow k)) _).get (H.next + 0) = some (trRow k)
          rw [hp_old (by rw [set_next]; omega), set_got (by omega)]
        · exact ⟨o1, by
            show (hp (G.set (H.next + 0) (trRow k)) _).get (H.next + 1) = some (trRow o1)
            rw [hp_old (by rw [set_next]; omega), set_other (by omega), hg1]⟩
    · rw [List.drop_of_length_le (by omega), walkTo] at hw
      have := hyes _ hw.symm
      refine stp (And.intro hg0' hg1') ?_
      refine aret_past (past_hp (past_set hG (by omega) _) _) hs ?_ this
      simp only [u_top, u_bool, u_int, u_str, u_nilp, u_nils, u_nilf, u_nilm, u_nili, u_emp, u_byteV, u_ptr, u_wr, u_wc, u_agg, u_tup, u_rd, u_imm, u_func, u_nil, u_cons, u_app, uc_nil, uc_cons, uc_app, u_bytes, uc_bytes, u_ints, uc_ints, cells_bool, cells_int, cells_str, cells_agg, cells_ptr, cells_nils, cells_imm, cells_wr, cells_wc, cells_nilp, cells_nilf, cells_nilm, cells_rd, cells_emp, cells_byteV, cells_func, and_self, and_true, true_and, u_slA, uc_strs, cells_slA, strV_is]
      exact ⟨props_u _ _, kids_u _ _⟩
def c89 : ACode := 
    (.seq 
    (.region [⟨(some 4), (.q (.move (.const (.int .i64 0)))), none⟩]) 
    (.seq 
    (.seq 
    (.region [⟨(some 7), (.q (.move (.tmp 1))), none⟩, ⟨(some 8), (.q (.len true (.tmp 7))), none⟩, ⟨(some 9), (.q (.bin .eql (.tmp 8) (.const (.int .i64 0)))), none⟩]) 
    (.cond (.tmp 9) 
    (.seq 
    (.region [⟨(some 10), (.q (.move (.tmp 0))), none⟩, ⟨(some 11), (.s (.call 94 [(.tmp 10)])), none⟩, ⟨(some 12), (.q (.bin .add (.tmp 11) (.const (.int .i64 1)))), none⟩, ⟨(some 4), (.q (.move (.tmp 12))), none⟩]) .ret) .skip)) 
    (.seq 
    (.seq 
    (.region [⟨(some 13), (.q (.move (.tmp 1))), none⟩, ⟨(some 14), (.q (.len true (.tmp 13))), none⟩, ⟨(some 15), (.q (.bin .eql (.tmp 14) (.const (.int .i64 1)))), none⟩]) 
    (.cond (.tmp 15) 
    (.seq 
    (.region [⟨(some 16), (.q (.move (.tmp 0))), none⟩, ⟨(some 17), (.q (.move (.tmp 1))), none⟩, ⟨(some 18), (.q (.idxStr (.tmp 17) (.const (.int .i64 0)))), none⟩, ⟨(some 19), (.s (.call 96 [(.tmp 16), (.tmp 18)])), none⟩, ⟨(some 4), (.q (.move (.tmp 19))), none⟩]) .ret) .skip)) 
    (.seq 
    (.region [⟨(some 5), (.q (.move (.const (.int .i64 0)))), none⟩]) 
    (.block 0 
    (.loop 
    (.block 1 
    (.seq 
    (.region [⟨(some 20), (.q (.move (.tmp 0))), none⟩, ⟨(some 21), (.q (.move (.tmp 1))), none⟩, ⟨(some 22), (.s (.call 57 [(.tmp 20), (.tmp 21)])), none⟩, ⟨(some 6), (.q (.move (.tmp 22))), none⟩]) 
    (.seq 
    (.seq 
    (.region [⟨(some 23), (.q (.move (.tmp 6))), none⟩, ⟨(some 24), (.q (.bin .eql (.tmp 23) (.const (.int .i64 (-1))))), none⟩]) 
    (.cond (.tmp 24) 
    (.seq 
    (.region [⟨(some 25), (.q (.move (.tmp 5))), none⟩, ⟨(some 4), (.q (.move (.tmp 25))), none⟩]) .ret) .skip)) 
    (.seq 
    (.region [⟨(some 26), (.q (.move (.tmp 5))), none⟩, ⟨(some 27), (.q (.bin .add (.tmp 26) (.const (.int .i64 1)))), none⟩, ⟨(some 5), (.q (.move (.tmp 27))), none⟩]) 
    (.region [⟨(some 28), (.q (.move (.tmp 0))), none⟩, ⟨(some 29), (.q (.move (.tmp 6))), none⟩, ⟨(some 30), (.q (.move (.tmp 1))), none⟩, ⟨(some 31), (.q (.len true (.tmp 30))), none⟩, ⟨(some 32), (.q (.bin .add (.tmp 29) (.tmp 31))), none⟩, ⟨(some 33), (.q (.sliceStr (.tmp 28) (some (.tmp 32)) none)), none⟩, ⟨(some 0), (.q (.move (.tmp 33))), none⟩])))))))))))
theorem t89 : Told Tryd.prog 89 34 c89 [(.tmp 4)] := ⟨Tryd.f89, _, [], Tryd.func89, rfl, by kernel_rfl, rfl, by kernel_rfl, by kernel_rfl⟩
def c60 : ACode := 
    (.seq 
    (.region [⟨(some 4), (.q (.move (.const .nils))), none⟩]) 
    (.seq 
    (.region [⟨(some 5), (.q (.move (.tmp 0))), none⟩, ⟨(some 6), (.q (.move (.tmp 1))), none⟩, ⟨(some 7), (.s (.call 72 [(.tmp 5), (.tmp 6), (.const (.int .i64 0)), (.const (.int .i64 (-1)))])), none⟩, ⟨(some 4), (.q (.move (.tmp 7))), none⟩]) .ret))
theorem t60 : Told Tryd.prog 60 8 c60 [(.tmp 4)] := ⟨Tryd.f60, _, [], Tryd.func60, rfl, by kernel_rfl, rfl, by kernel_rfl, by kernel_rfl⟩
def c72 : ACode := 
    (.seq 
    (.region [⟨(some 8), (.q (.move (.const .nils))), none⟩]) 
    (.seq 
    (.seq 
    (.region [⟨(some 12), (.q (.move (.tmp 3))), none⟩, ⟨(some 13), (.q (.bin .eql (.tmp 12) (.const (.int .i64 0)))), none⟩]) 
    (.cond (.tmp 13) 
    (.seq 
    (.region [⟨(some 8), (.q (.move (.const .nils))), none⟩]) .ret) .skip)) 
    (.seq 
    (.seq 
    (.region [⟨(some 14), (.q (.move (.tmp 1))), none⟩, ⟨(some 15), (.q (.bin .eql (.tmp 14) (.const (.str (B []))))), none⟩]) 
    (.cond (.tmp 15) 
    (.seq 
    (.region [⟨(some 16), (.q (.move (.tmp 0))), none⟩, ⟨(some 17), (.q (.move (.tmp 3))), none⟩, ⟨(some 18), (.s (.call 88 [(.tmp 16), (.tmp 17)])), none⟩, ⟨(some 8), (.q (.move (.tmp 18))), none⟩]) .ret) .skip)) 
    (.seq 
    (.seq 
    (.region [⟨(some 19), (.q (.move (.tmp 3))), none⟩, ⟨(some 20), (.q (.bin .lss (.tmp 19) (.const (.int .i64 0)))), none⟩]) 
    (.cond (.tmp 20) 
    (.region [⟨(some 21), (.q (.move (.tmp 0))), none⟩, ⟨(some 22), (.q (.move (.tmp 1))), none⟩, ⟨(some 23), (.s (.call 89 [(.tmp 21), (.tmp 22)])), none⟩, ⟨(some 24), (.q (.bin .add (.tmp 23) (.const (.int .i64 1)))), none⟩, ⟨(some 3), (.q (.move (.tmp 24))), none⟩]) .skip)) 
    (.seq 
    (.region [⟨(some 25), (.q (.move (.tmp 3))), none⟩, ⟨(some 26), (.q (.move (.tmp 0))), none⟩, ⟨(some 27), (.q (.len true (.tmp 26))), none⟩, ⟨(some 28), (.q (.bin .add (.tmp 27) (.const (.int .i64 1)))), none⟩, ⟨(some 29), (.q (.best false (.tmp 25) (.tmp 28))), none⟩, ⟨(some 3), (.q (.move (.tmp 29))), none⟩]) 
    (.seq 
    (.region [⟨(some 30), (.q (.move (.tmp 3))), none⟩, ⟨(some 31), (.s (.mk 9 1 16 [(.str (B []))] (.tmp 30))), none⟩, ⟨(some 9), (.q (.move (.tmp 31))), none⟩]) 
    (.seq 
    (.region [⟨(some 32), (.q (.move (.tmp 3))), none⟩, ⟨(some 33), (.q (.bin .sub (.tmp 32) (.const (.int .i64 1)))), none⟩, ⟨(some 3), (.q (.move (.tmp 33))), none⟩]) 
    (.seq 
    (.region [⟨(some 10), (.q (.move (.const (.int .i64 0)))), none⟩]) 
    (.seq 
    (.block 0 
    (.loop 
    (.seq 
    (.seq 
    (.region [⟨(some 34), (.q (.move (.tmp 10))), none⟩, ⟨(some 35), (.q (.move (.tmp 3))), none⟩, ⟨(some 36), (.q (.bin .lss (.tmp 34) (.tmp 35))), none⟩]) 
    (.cond (.tmp 36) .skip (.exit 0))) 
    (.block 1 
    (.seq 
    (.region [⟨(some 37), (.q (.move (.tmp 0))), none⟩, ⟨(some 38), (.q (.move (.tmp 1))), none⟩, ⟨(some 39), (.s (.call 57 [(.tmp 37), (.tmp 38)])), none⟩, ⟨(some 11), (.q (.move (.tmp 39))), none⟩]) 
    (.seq 
    (.seq 
    (.region [⟨(some 40), (.q (.move (.tmp 11))), none⟩, ⟨(some 41), (.q (.bin .lss (.tmp 40) (.const (.int .i64 0)))), none⟩]) 
    (.cond (.tmp 41) (.exit 0) .skip)) 
    (.seq 
    (.region [⟨(some 42), (.q (.move (.tmp 9))), none⟩, ⟨(some 43), (.q (.move (.tmp 10))), none⟩, ⟨(some 44), (.q (.move (.tmp 0))), none⟩, ⟨(some 45), (.q (.move (.tmp 11))), none⟩, ⟨(some 46), (.q (.move (.tmp 2))), none⟩, ⟨(some 47), (.q (.bin .add (.tmp 45) (.tmp 46))), none⟩, ⟨(some 48), (.q (.sliceStr (.tmp 44) none (some (.tmp 47)))), none⟩, ⟨(some 49), (.q (.idxSl 1 (.tmp 42) (.tmp 43))), none⟩, ⟨none, (.s (.store 1 (.tmp 49) (.tmp 48))), none⟩]) 
    (.seq 
    (.region [⟨(some 50), (.q (.move (.tmp 0))), none⟩, ⟨(some 51), (.q (.move (.tmp 11))), none⟩, ⟨(some 52), (.q (.move (.tmp 1))), none⟩, ⟨(some 53), (.q (.len true (.tmp 52))), none⟩, ⟨(some 54), (.q (.bin .add (.tmp 51) (.tmp 53))), none⟩, ⟨(some 55), (.q (.sliceStr (.tmp 50) (some (.tmp 54)) none)), none⟩, ⟨(some 0), (.q (.move (.tmp 55))), none⟩]) 
    (.region [⟨(some 56), (.q (.move (.tmp 10))), none⟩, ⟨(some 57), (.q (.bin .add (.tmp 56) (.const (.int .i64 1)))), none⟩, ⟨(some 10), (.q (.move (.tmp 57))), none⟩]))))))))) 
    (.seq 
    (.region [⟨(some 58), (.q (.move (.tmp 9))), none⟩, ⟨(some 59), (.q (.move (.tmp 10))), none⟩, ⟨(some 60), (.q (.move (.tmp 0))), none⟩, ⟨(some 61), (.q (.idxSl 1 (.tmp 58) (.tmp 59))), none⟩, ⟨none, (.s (.store 1 (.tmp 61) (.tmp 60))), none⟩]) 
    (.seq 
    (.region [⟨(some 62), (.q (.move (.tmp 9))), none⟩, ⟨(some 63), (.q (.move (.tmp 10))), none⟩, ⟨(some 64), (.q (.bin .add (.tmp 63) (.const (.int .i64 1)))), none⟩, ⟨(some 65), (.q (.sliceSl 1 (.tmp 62) none (some (.tmp 64)))), none⟩, ⟨(some 8), (.q (.move (.tmp 65))), none⟩]) .ret)))))))))))
theorem t72 : Told Tryd.prog 72 66 c72 [(.tmp 8)] := ⟨Tryd.f72, _, [], Tryd.func72, rfl, by kernel_rfl, rfl, by kernel_rfl, by kernel_rfl⟩
def c83 : ACode := 
    (.seq 
    (.region [⟨(some 4), (.q (.move (.const (.int .i64 0)))), none⟩]) 
    (.seq 
    (.region [⟨(some 5), (.q (.move (.tmp 0))), none⟩, ⟨(some 6), (.q (.move (.tmp 1))), none⟩, ⟨(some 7), (.s (.call 92 [(.tmp 5), (.tmp 6)])), none⟩, ⟨(some 4), (.q (.move (.tmp 7))), none⟩]) .ret))
theorem t83 : Told Tryd.prog 83 8 c83 [(.tmp 4)] := ⟨Tryd.f83, _, [], Tryd.func83, rfl, by kernel_rfl, rfl, by kernel_rfl, by kernel_rfl⟩
def c70 : ACode := 
    (.seq 
    (.region [⟨(some 4), (.q (.move (.const (.int .i64 0)))), none⟩]) 
    (.seq 
    (.region [⟨(some 14), (.q (.move (.tmp 1))), none⟩, ⟨(some 15), (.q (.len true (.tmp 14))), none⟩, ⟨(some 5), (.q (.move (.tmp 15))), none⟩]) 
    (.seq 
    (.block 0 
    (.seq 
    (.region [⟨(some 17), (.q (.move (.tmp 5))), none⟩, ⟨(some 18), (.q (.bin .eql (.tmp 17) (.const (.int .i64 0)))), none⟩, ⟨(some 19), (.q (.move (.tmp 18))), none⟩, ⟨(some 20), (.q (.move (.tmp 1))), (some (19, false))⟩, ⟨(some 21), (.q (.move (.tmp 0))), (some (19, false))⟩, ⟨(some 22), (.q (.bin .eql (.tmp 20) (.tmp 21))), (some (19, false))⟩, ⟨(some 23), (.q (.pick (.tmp 19) (.const (.bool true)) (.tmp 22))), none⟩, ⟨(some 16), (.q (.move (.tmp 23))), none⟩]) 
    (.cond (.tmp 16) 
    (.seq 
    (.region [⟨(some 4), (.q (.move (.const (.int .i64 0)))), none⟩]) .ret) 
    (.seq 
    (.region [⟨(some 25), (.q (.move (.tmp 5))), none⟩, ⟨(some 26), (.q (.bin .eql (.tmp 25) (.const (.int .i64 1)))), none⟩, ⟨(some 24), (.q (.move (.tmp 26))), none⟩]) 
    (.cond (.tmp 24) 
    (.seq 
    (.region [⟨(some 27), (.q (.move (.tmp 0))), none⟩, ⟨(some 28), (.q (.move (.tmp 1))), none⟩, ⟨(some 29), (.q (.idxStr (.tmp 28) (.const (.int .i64 0)))), none⟩, ⟨(some 30), (.s (.call 83 [(.tmp 27), (.tmp 29)])), none⟩, ⟨(some 4), (.q (.move (.tmp 30))), none⟩]) .ret) 
    (.seq 
    (.region [⟨(some 32), (.q (.move (.tmp 5))), none⟩, ⟨(some 33), (.q (.move (.tmp 0))), none⟩, ⟨(some 34), (.q (.len true (.tmp 33))), none⟩, ⟨(some 35), (.q (.bin .geq (.tmp 32) (.tmp 34))), none⟩, ⟨(some 31), (.q (.move (.tmp 35))), none⟩]) 
    (.cond (.tmp 31) 
    (.seq 
    (.region [⟨(some 4), (.q (.move (.const (.int .i64 (-1))))), none⟩]) .ret) 
    (.seq 
    (.region [⟨(some 37), (.q (.move (.tmp 5))), none⟩, ⟨(some 38), (.s .stop), none⟩, ⟨(some 39), (.q (.bin .leq (.tmp 37) (.tmp 38))), none⟩, ⟨(some 40), (.q (.move (.tmp 39))), none⟩, ⟨(some 41), (.q (.move (.tmp 0))), (some (40, true))⟩, ⟨(some 42), (.q (.len true (.tmp 41))), (some (40, true))⟩, ⟨(some 43), (.q (.bin .leq (.tmp 42) (.const (.int .i64 64)))), (some (40, true))⟩, ⟨(some 44), (.q (.pick (.tmp 40) (.tmp 43) (.const (.bool false)))), none⟩, ⟨(some 36), (.q (.move (.tmp 44))), none⟩]) 
    (.cond (.tmp 36) 
    (.seq 
    (.region [⟨(some 45), (.q (.move (.tmp 0))), none⟩, ⟨(some 46), (.q (.move (.tmp 1))), none⟩, ⟨(some 47), (.s (.call 84 [(.tmp 45), (.tmp 46)])), none⟩, ⟨(some 4), (.q (.move (.tmp 47))), none⟩]) .ret) .skip))))))))) 
    (.seq 
    (.region [⟨(some 48), (.q (.move (.tmp 1))), none⟩, ⟨(some 49), (.q (.idxStr (.tmp 48) (.const (.int .i64 0)))), none⟩, ⟨(some 6), (.q (.move (.tmp 49))), none⟩]) 
    (.seq 
    (.region [⟨(some 50), (.q (.move (.tmp 1))), none⟩, ⟨(some 51), (.q (.idxStr (.tmp 50) (.const (.int .i64 1)))), none⟩, ⟨(some 7), (.q (.move (.tmp 51))), none⟩]) 
    (.seq 
    (.region [⟨(some 8), (.q (.move (.const (.int .i64 0)))), none⟩]) 
    (.seq 
    (.region [⟨(some 52), (.q (.move (.tmp 0))), none⟩, ⟨(some 53), (.q (.len true (.tmp 52))), none⟩, ⟨(some 54), (.q (.move (.tmp 5))), none⟩, ⟨(some 55), (.q (.bin .sub (.tmp 53) (.tmp 54))), none⟩, ⟨(some 56), (.q (.bin .add (.tmp 55) (.const (.int .i64 1)))), none⟩, ⟨(some 9), (.q (.move (.tmp 56))), none⟩]) 
    (.seq 
    (.region [⟨(some 10), (.q (.move (.const (.int .i64 0)))), none⟩]) 
    (.seq 
    (.block 1 
    (.loop 
    (.seq 
    (.seq 
    (.region [⟨(some 57), (.q (.move (.tmp 8))), none⟩, ⟨(some 58), (.q (.move (.tmp 9))), none⟩, ⟨(some 59), (.q (.bin .lss (.tmp 57) (.tmp 58))), none⟩]) 
    (.cond (.tmp 59) .skip (.exit 1))) 
    (.block 2 
    (.seq 
    (.seq 
    (.region [⟨(some 60), (.q (.move (.tmp 0))), none⟩, ⟨(some 61), (.q (.move (.tmp 8))), none⟩, ⟨(some 62), (.q (.idxStr (.tmp 60) (.tmp 61))), none⟩, ⟨(some 63), (.q (.move (.tmp 6))), none⟩, ⟨(some 64), (.q (.bin .neq (.tmp 62) (.tmp 63))), none⟩]) 
    (.cond (.tmp 64) 
    (.seq 
    (.region [⟨(some 65), (.q (.move (.tmp 0))), none⟩, ⟨(some 66), (.q (.move (.tmp 8))), none⟩, ⟨(some 67), (.q (.bin .add (.tmp 66) (.const (.int .i64 1)))), none⟩, ⟨(some 68), (.q (.move (.tmp 9))), none⟩, ⟨(some 69), (.q (.sliceStr (.tmp 65) (some (.tmp 67)) (some (.tmp 68)))), none⟩, ⟨(some 70), (.q (.move (.tmp 6))), none⟩, ⟨(some 71), (.s (.call 83 [(.tmp 69), (.tmp 70)])), none⟩, ⟨(some 11), (.q (.move (.tmp 71))), none⟩]) 
    (.seq 
    (.seq 
    (.region [⟨(some 72), (.q (.move (.tmp 11))), none⟩, ⟨(some 73), (.q (.bin .lss (.tmp 72) (.const (.int .i64 0)))), none⟩]) 
    (.cond (.tmp 73) 
    (.seq 
    (.region [⟨(some 4), (.q (.move (.const (.int .i64 (-1))))), none⟩]) .ret) .skip)) 
    (.region [⟨(some 74), (.q (.move (.tmp 8))), none⟩, ⟨(some 75), (.q (.move (.tmp 11))), none⟩, ⟨(some 76), (.q (.bin .add (.tmp 75) (.const (.int .i64 1)))), none⟩, ⟨(some 77), (.q (.bin .add (.tmp 74) (.tmp 76))), none⟩, ⟨(some 8), (.q (.move (.tmp 77))), none⟩]))) .skip)) 
    (.seq 
    (.seq 
    (.region [⟨(some 78), (.q (.move (.tmp 0))), none⟩, ⟨(some 79), (.q (.move (.tmp 8))), none⟩, ⟨(some 80), (.q (.bin .add (.tmp 79) (.const (.int .i64 1)))), none⟩, ⟨(some 81), (.q (.idxStr (.tmp 78) (.tmp 80))), none⟩, ⟨(some 82), (.q (.move (.tmp 7))), none⟩, ⟨(some 83), (.q (.bin .eql (.tmp 81) (.tmp 82))), none⟩, ⟨(some 84), (.q (.move (.tmp 83))), none⟩, ⟨(some 85), (.q (.move (.tmp 0))), (some (84, true))⟩, ⟨(some 86), (.q (.move (.tmp 8))), (some (84, true))⟩, ⟨(some 87), (.q (.move (.tmp 8))), (some (84, true))⟩, ⟨(some 88), (.q (.move (.tmp 5))), (some (84, true))⟩, ⟨(some 89), (.q (.bin .add (.tmp 87) (.tmp 88))), (some (84, true))⟩, ⟨(some 90), (.q (.sliceStr (.tmp 85) (some (.tmp 86)) (some (.tmp 89)))), (some (84, true))⟩, ⟨(some 91), (.q (.move (.tmp 1))), (some (84, true))⟩, ⟨(some 92), (.q (.bin .eql (.tmp 90) (.tmp 91))), (some (84, true))⟩, ⟨(some 93), (.q (.pick (.tmp 84) (.tmp 92) (.const (.bool false)))), none⟩]) 
    (.cond (.tmp 93) 
    (.seq 
    (.region [⟨(some 94), (.q (.move (.tmp 8))), none⟩, ⟨(some 4), (.q (.move (.tmp 94))), none⟩]) .ret) .skip)) 
    (.seq 
    (.region [⟨(some 95), (.q (.move (.tmp 8))), none⟩, ⟨(some 96), (.q (.bin .add (.tmp 95) (.const (.int .i64 1)))), none⟩, ⟨(some 8), (.q (.move (.tmp 96))), none⟩]) 
    (.seq 
    (.region [⟨(some 97), (.q (.move (.tmp 10))), none⟩, ⟨(some 98), (.q (.bin .add (.tmp 97) (.const (.int .i64 1)))), none⟩, ⟨(some 10), (.q (.move (.tmp 98))), none⟩]) 
    (.seq 
    (.region [⟨(some 99), (.q (.move (.tmp 5))), none⟩, ⟨(some 100), (.s .stop), none⟩, ⟨(some 101), (.q (.bin .leq (.tmp 99) (.tmp 100))), none⟩, ⟨(some 102), (.q (.move (.tmp 101))), none⟩, ⟨(some 103), (.q (.move (.tmp 10))), (some (102, true))⟩, ⟨(some 104), (.q (.move (.tmp 8))), (some (102, true))⟩, ⟨(some 105), (.s (.call 85 [(.tmp 104)])), (some (102, true))⟩, ⟨(some 106), (.q (.bin .gtr (.tmp 103) (.tmp 105))), (some (102, true))⟩, ⟨(some 107), (.q (.pick (.tmp 102) (.tmp 106) (.const (.bool false)))), none⟩]) 
    (.cond (.tmp 107) 
    (.seq 
    (.region [⟨(some 108), (.q (.move (.tmp 0))), none⟩, ⟨(some 109), (.q (.move (.tmp 8))), none⟩, ⟨(some 110), (.q (.sliceStr (.tmp 108) (some (.tmp 109)) none)), none⟩, ⟨(some 111), (.q (.move (.tmp 1))), none⟩, ⟨(some 112), (.s (.call 84 [(.tmp 110), (.tmp 111)])), none⟩, ⟨(some 12), (.q (.move (.tmp 112))), none⟩]) 
    (.seq 
    (.seq 
    (.region [⟨(some 113), (.q (.move (.tmp 12))), none⟩, ⟨(some 114), (.q (.bin .geq (.tmp 113) (.const (.int .i64 0)))), none⟩]) 
    (.cond (.tmp 114) 
    (.seq 
    (.region [⟨(some 115), (.q (.move (.tmp 12))), none⟩, ⟨(some 116), (.q (.move (.tmp 8))), none⟩, ⟨(some 117), (.q (.bin .add (.tmp 115) (.tmp 116))), none⟩, ⟨(some 4), (.q (.move (.tmp 117))), none⟩]) .ret) .skip)) 
    (.seq 
    (.region [⟨(some 4), (.q (.move (.const (.int .i64 (-1))))), none⟩]) .ret))) 
    (.seq 
    (.region [⟨(some 118), (.q (.move (.tmp 5))), none⟩, ⟨(some 119), (.s .stop), none⟩, ⟨(some 120), (.q (.bin .gtr (.tmp 118) (.tmp 119))), none⟩, ⟨(some 121), (.q (.move (.tmp 120))), none⟩, ⟨(some 122), (.q (.move (.tmp 10))), (some (121, true))⟩, ⟨(some 123), (.q (.move (.tmp 8))), (some (121, true))⟩, ⟨(some 124), (.q (.bin .shr (.tmp 123) (.const (.int .u64 4)))), (some (121, true))⟩, ⟨(some 125), (.q (.bin .add (.const (.int .i64 4)) (.tmp 124))), (some (121, true))⟩, ⟨(some 126), (.q (.bin .geq (.tmp 122) (.tmp 125))), (some (121, true))⟩, ⟨(some 127), (.q (.pick (.tmp 121) (.tmp 126) (.const (.bool false)))), none⟩, ⟨(some 128), (.q (.move (.tmp 127))), none⟩, ⟨(some 129), (.q (.move (.tmp 8))), (some (128, true))⟩, ⟨(some 130), (.q (.move (.tmp 9))), (some (128, true))⟩, ⟨(some 131), (.q (.bin .lss (.tmp 129) (.tmp 130))), (some (128, true))⟩, ⟨(some 132), (.q (.pick (.tmp 128) (.tmp 131) (.const (.bool false)))), none⟩]) 
    (.cond (.tmp 132) 
    (.seq 
    (.region [⟨(some 133), (.q (.move (.tmp 0))), none⟩, ⟨(some 134), (.q (.move (.tmp 8))), none⟩, ⟨(some 135), (.q (.sliceStr (.tmp 133) (some (.tmp 134)) none)), none⟩, ⟨(some 136), (.q (.move (.tmp 1))), none⟩, ⟨(some 137), (.s (.call 86 [(.tmp 135), (.tmp 136)])), none⟩, ⟨(some 13), (.q (.move (.tmp 137))), none⟩]) 
    (.seq 
    (.seq 
    (.region [⟨(some 138), (.q (.move (.tmp 13))), none⟩, ⟨(some 139), (.q (.bin .lss (.tmp 138) (.const (.int .i64 0)))), none⟩]) 
    (.cond (.tmp 139) 
    (.seq 
    (.region [⟨(some 4), (.q (.move (.const (.int .i64 (-1))))), none⟩]) .ret) .skip)) 
    (.seq 
    (.region [⟨(some 140), (.q (.move (.tmp 8))), none⟩, ⟨(some 141), (.q (.move (.tmp 13))), none⟩, ⟨(some 142), (.q (.bin .add (.tmp 140) (.tmp 141))), none⟩, ⟨(some 4), (.q (.move (.tmp 142))), none⟩]) .ret))) .skip)))))))))))) 
    (.seq 
    (.region [⟨(some 4), (.q (.move (.const (.int .i64 (-1))))), none⟩]) .ret))))))))))
theorem t70 : Told Tryd.prog 70 143 c70 [(.tmp 4)] := ⟨Tryd.f70, _, [], Tryd.func70, rfl, by kernel_rfl, rfl, by kernel_rfl, by kernel_rfl⟩
def c57 : ACode := 
    (.seq 
    (.region [⟨(some 4), (.q (.move (.const (.int .i64 0)))), none⟩]) 
    (.seq 
    (.region [⟨(some 5), (.q (.move (.tmp 0))), none⟩, ⟨(some 6), (.q (.move (.tmp 1))), none⟩, ⟨(some 7), (.s (.call 70 [(.tmp 5), (.tmp 6)])), none⟩, ⟨(some 4), (.q (.move (.tmp 7))), none⟩]) .ret))
theorem t57 : Told Tryd.prog 57 8 c57 [(.tmp 4)] := ⟨Tryd.f57, _, [], Tryd.func57, rfl, by kernel_rfl, rfl, by kernel_rfl, by kernel_rfl⟩
def c37 : ACode := 
    (.seq 
    (.region [⟨(some 4), (.q (.move (.const (.bool false)))), none⟩]) 
    (.seq 
    (.region [⟨(some 5), (.q (.move (.tmp 0))), none⟩, ⟨(some 6), (.q (.move (.tmp 1))), none⟩, ⟨(some 7), (.s (.call 57 [(.tmp 5), (.tmp 6)])), none⟩, ⟨(some 8), (.q (.bin .geq (.tmp 7) (.const (.int .i64 0)))), none⟩, ⟨(some 4), (.q (.move (.tmp 8))), none⟩]) .ret))
theorem t37 : Told Tryd.prog 37 9 c37 [(.tmp 4)] := ⟨Tryd.f37, _, [], Tryd.func37, rfl, by kernel_rfl, rfl, by kernel_rfl, by kernel_rfl⟩
/-- Where a byte is first: what is ahead of it, what is behind it, whether it is there. -/
def cut1 (c : UInt8) : List UInt8 → List UInt8 × List UInt8 × Bool
  | [] => ([], [], false)
  | b :: l => if b = c then ([], l, true) else (b :: (cut1 c l).1, (cut1 c l).2.1, (cut1 c l).2.2)
theorem cut1_found {c : UInt8} : ∀ {l : List UInt8}, (cut1 c l).2.2 = true → l = (cut1 c l).1 ++ c :: (cut1 c l).2.1
  | [], h => by simp [cut1] at h
  | b :: l, h => by
    by_cases hb : b = c
    · subst hb; simp [cut1]
    · simp only [cut1, if_neg hb] at h ⊢
      rw [List.cons_append, ← cut1_found h]
theorem cut1_none {c : UInt8} : ∀ {l : List UInt8}, (cut1 c l).2.2 = false → (cut1 c l).1 = l ∧ (cut1 c l).2.1 = [] ∧ c ∉ l
  | [], _ => by simp [cut1]
  | b :: l, h => by
    by_cases hb : b = c
    · subst hb; simp [cut1] at h
    · simp only [cut1, if_neg hb] at h ⊢
      obtain ⟨h1, h2, h3⟩ := cut1_none h
      exact ⟨by rw [h1], h2, by simp [h3, Ne.symm hb]⟩
theorem cut1_free {c : UInt8} : ∀ {l : List UInt8}, c ∉ (cut1 c l).1
  | [] => by simp [cut1]
  | b :: l => by
    by_cases hb : b = c
    · subst hb; simp [cut1]
    · simp only [cut1, if_neg hb, List.mem_cons, not_or]
      exact ⟨Ne.symm hb, cut1_free⟩
theorem cut1_mem {c : UInt8} {l : List UInt8} : ((cut1 c l).2.2 = true) ↔ (c ∈ l) := by
  constructor
  · intro h
    rw [cut1_found h]
    simp
  · intro h
    cases h2 : (cut1 c l).2.2 with
    | true => rfl
    | false => exact absurd h (cut1_none h2).2.2
theorem cut1_le {c : UInt8} : ∀ {l : List UInt8}, (cut1 c l).1.length ≤ l.length
  | [] => by simp [cut1]
  | b :: l => by
    by_cases hb : b = c
    · simp [cut1, hb]
    · simp only [cut1, if_neg hb, List.length_cons]
      have := cut1_le (c := c) (l := l)
      omega
theorem indexByte_cut {c : UInt8} : ∀ (l : List UInt8), Lib.indexByte l c = if (cut1 c l).2.2 = true then ((cut1 c l).1.length : Int) else -1
  | [] => rfl
  | b :: l => by
    by_cases hb : b = c
    · subst hb; simp [Lib.indexByte, cut1]
    · have hb' : (b == c) = false := by simpa using hb
      simp only [Lib.indexByte, cut1, if_neg hb, hb', indexByte_cut l, Bool.false_eq_true, if_false, List.length_cons]
      cases (cut1 c l).2.2 with
      | true =>
        have : ((((cut1 c l).1.length : Int)) == -1) = false := by simp
        simp [this]
      | false => simp
theorem ibs_a {l : List UInt8} {c : UInt8} {H : AHeap} {K : AV → AHeap → Prop} (h : K (.int .i64 (Lib.indexByte l c)) H) : (ACalls Tryd.prog) 92 [.str (B l), .int .u8 (c.toNat : Int)] H K :=
  acalls_extq h fun g w vs hS hR => by
    obtain ⟨u, v, rfl, h1, h2⟩ := reps_two hR
    have e1 := str_inv h1
    have e2 := int_inv h2
    subst e1
    subst e2
    refine ⟨.int .i64 (Lib.indexByte l c), ?_, .int _ _⟩
    rw [run_callFunc_extern Tryd.func92 (by kernel_rfl) (by kernel_rfl) (by kernel_rfl) (e := Extern.BytealgIndexByte.indexByte) (by kernel_rfl), Lib.run_indexByteString]
    simp [B_list, Result.andThen]
theorem sib_a {l : List UInt8} {c : UInt8} {H : AHeap} {K : AV → AHeap → Prop} (h : K (.int .i64 (Lib.indexByte l c)) H) : (ACalls Tryd.prog) 83 [.str (B l), .int .u8 (c.toNat : Int)] H K := by
  refine acalls_go mo t83 (fun hs hu => ?_)
  simp only [c83, go_sem, Nat.reduceLeDiff, Nat.reduceAdd, Nat.reduceSub, Nat.reduceMul, Nat.reduceLT, Int.reduceLT, Int.reduceLE, Int.reduceAdd, Int.reduceSub, Int.reduceMul, Int.reduceToNat, Int.reduceNeg, Int.reduceEq, Nat.reducePow, Int.reducePow, Nat.reduceEqDiff, decide_true, decide_false, reduceIte, reduceCtorEq, Int.reduceBEq, Int.reduceBNe, bne_self_eq_false, Int.cast_ofNat_Int, Bool.not_true, Bool.not_false, IntKind.bits]
  refine ibs_a ?_
  refine stp0 ?_
  exact aret_u hs (h)
theorem sindex_a {l : List UInt8} {c : UInt8} {H : AHeap} {K : AV → AHeap → Prop} (h : K (.int .i64 (Lib.indexByte l c)) H) : (ACalls Tryd.prog) 70 [.str (B l), .str (B [c])] H K := by
  refine acalls_go mo t70 (fun hs hu => ?_)
  simp only [c70, go_sem, Nat.reduceLeDiff, Nat.reduceAdd, Nat.reduceSub, Nat.reduceMul, Nat.reduceLT, Int.reduceLT, Int.reduceLE, Int.reduceAdd, Int.reduceSub, Int.reduceMul, Int.reduceToNat, Int.reduceNeg, Int.reduceEq, Nat.reducePow, Int.reducePow, Nat.reduceEqDiff, decide_true, decide_false, reduceIte, reduceCtorEq, Int.reduceBEq, Int.reduceBNe, bne_self_eq_false, Int.cast_ofNat_Int, Bool.not_true, Bool.not_false, IntKind.bits]
  refine stp0 ?_
  refine cnd_dec (fun h1 => ?_) (fun h1 => ?_)
  · subst h1
    have h0 : Lib.indexByte [c] c = 0 := by simp [Lib.indexByte]
    rw [h0] at h
    refine stp0 ?_
    exact aret_u hs (h)
  · refine stp0 ?_
    refine sib_a ?_
    refine stp0 ?_
    exact aret_u hs (h)
theorem index_a {l : List UInt8} {c : UInt8} {H : AHeap} {K : AV → AHeap → Prop} (h : K (.int .i64 (Lib.indexByte l c)) H) : (ACalls Tryd.prog) 57 [.str (B l), .str (B [c])] H K := by
  refine acalls_go mo t57 (fun hs hu => ?_)
  simp only [c57, go_sem, Nat.reduceLeDiff, Nat.reduceAdd, Nat.reduceSub, Nat.reduceMul, Nat.reduceLT, Int.reduceLT, Int.reduceLE, Int.reduceAdd, Int.reduceSub, Int.reduceMul, Int.reduceToNat, Int.reduceNeg, Int.reduceEq, Nat.reducePow, Int.reducePow, Nat.reduceEqDiff, decide_true, decide_false, reduceIte, reduceCtorEq, Int.reduceBEq, Int.reduceBNe, bne_self_eq_false, Int.cast_ofNat_Int, Bool.not_true, Bool.not_false, IntKind.bits]
  refine sindex_a ?_
  refine stp0 ?_
  exact aret_u hs (h)
theorem indexByte_ge0 (l : List UInt8) (c : UInt8) : decide (0 ≤ Lib.indexByte l c) = (cut1 c l).2.2 := by
  rw [indexByte_cut]
  cases (cut1 c l).2.2 with
  | true => simp
  | false => simp
theorem contains_a {l : List UInt8} {c : UInt8} {H : AHeap} {K : AV → AHeap → Prop} (h : K (.bool (cut1 c l).2.2) H) : (ACalls Tryd.prog) 37 [.str (B l), .str (B [c])] H K := by
  refine acalls_go mo t37 (fun hs hu => ?_)
  simp only [c37, go_sem, Nat.reduceLeDiff, Nat.reduceAdd, Nat.reduceSub, Nat.reduceMul, Nat.reduceLT, Int.reduceLT, Int.reduceLE, Int.reduceAdd, Int.reduceSub, Int.reduceMul, Int.reduceToNat, Int.reduceNeg, Int.reduceEq, Nat.reducePow, Int.reducePow, Nat.reduceEqDiff, decide_true, decide_false, reduceIte, reduceCtorEq, Int.reduceBEq, Int.reduceBNe, bne_self_eq_false, Int.cast_ofNat_Int, Bool.not_true, Bool.not_false, IntKind.bits]
  refine index_a ?_
  refine stp @indexByte_ge0 ?_
  exact aret_u hs (h)
/-- The parts of a text between bytes c. -/
def splitA (c : UInt8) : List UInt8 → List UInt8 → List (List UInt8)
  | acc, [] => [acc]
  | acc, b :: l => if b = c then acc :: splitA c [] l else splitA c (acc ++ [b]) l
theorem split_cut (c : UInt8) : ∀ (l acc : List UInt8), splitA c acc l = if (cut1 c l).2.2 = true then (acc ++ (cut1 c l).1) :: splitA c [] (cut1 c l).2.1 else [acc ++ l]
  | [], acc => by simp [splitA, cut1]
  | b :: l, acc => by
    rw [splitA, cut1]
    by_cases h : b = c
    · rw [if_pos h, if_pos h, if_pos rfl, List.append_nil]
    · rw [if_neg h, if_neg h, split_cut c l]
      simp only
      rw [List.append_assoc, List.append_assoc]
      rfl
theorem split_len (c : UInt8) : ∀ (l acc : List UInt8), (splitA c acc l).length = l.count c + 1
  | [], acc => rfl
  | b :: l, acc => by
    rw [splitA, List.count_cons]
    by_cases h : b = c
    · rw [if_pos h, List.length_cons, split_len c l, if_pos (by simpa using h)]
    · rw [if_neg h, split_len c l, if_neg (by simpa using h)]
theorem count_cut {c : UInt8} {l : List UInt8} (h : (cut1 c l).2.2 = true) : l.count c = (cut1 c l).2.1.count c + 1 := by
  have h1 := cut1_found h
  have h2 := cut1_free (c := c) (l := l)
  conv => lhs; rw [h1]
  rw [List.count_append, List.count_cons, List.count_eq_zero.2 h2]
  simp
theorem count_pos {c : UInt8} {l : List UInt8} (h : 0 < l.count c) : (cut1 c l).2.2 = true := cut1_mem.2 (List.count_pos_iff.1 h)
def rowS (ps : List (List UInt8)) (n : Nat) : List AV := ps.map strV ++ List.replicate (n - ps.length) (strV [])
theorem cut_parts {u p q : List UInt8} {c : UInt8} (h : u = p ++ c :: q) : u.take p.length = p ∧ u.drop (p.length + 1) = q ∧ p.length + 1 + q.length = u.length := by
  subst h
  refine ⟨by simp, by rw [← List.drop_drop]; simp, by simp; omega⟩
theorem rowS_0 (n : Nat) : (List.replicate n [AV.str (B [])]).flatten = rowS [] n := by
  unfold rowS
  rw [List.map_nil, List.nil_append, List.length_nil, Nat.sub_zero]
  induction n with
  | zero => rfl
  | succ n ih => rw [List.replicate_succ, List.flatten_cons, ih]; rfl
theorem rowS_len (ps : List (List UInt8)) (n : Nat) (h : ps.length ≤ n) : (rowS ps n).length = n := by
  unfold rowS
  rw [List.length_append, List.length_map, List.length_replicate]
  omega
theorem rowS_set (ps : List (List UInt8)) (w : List UInt8) (n : Nat) (h : ps.length < n) : (rowS ps n).take ps.length ++ [AV.str (B w)] ++ (rowS ps n).drop (ps.length + 1) = rowS (ps ++ [w]) n := by
  have hl : (ps.map strV).length = ps.length := List.length_map _
  unfold rowS
  rw [List.take_append_of_le_length (by omega), List.take_of_length_le (by omega), List.map_append, List.length_append, List.length_singleton]
  rw [← hl, List.drop_length_add_append]
  rw [List.drop_replicate, hl, Nat.sub_sub]
  rfl
section
variable {H : AHeap} {K : AV → AHeap → Prop}
theorem csb_a {l : List UInt8} {c : UInt8} (h : K (.int .i64 (l.count c : Int)) H) : (ACalls Tryd.prog) 96 [.str (B l), .int .u8 (c.toNat : Int)] H K :=
  acalls_extq h fun g w vs hS hR => by
    obtain ⟨u, v, rfl, h1, h2⟩ := reps_two hR
    have e1 := str_inv h1
    have e2 := int_inv h2
    subst e1
    subst e2
    refine ⟨.int .i64 (l.count c : Int), ?_, .int _ _⟩
    rw [run_callFunc_extern Tryd.func96 (by kernel_rfl) (by kernel_rfl) (by kernel_rfl) (e := Extern.BytealgCount.count) (by kernel_rfl), Lib.run_countString]
    simp [B_list, Result.andThen, Lib.countByte]
theorem cnt_a {l : List UInt8} {c : UInt8} (h : K (.int .i64 (l.count c : Int)) H) : (ACalls Tryd.prog) 89 [.str (B l), .str (B [c])] H K := by
  refine acalls_go mo t89 (fun hs hu => ?_)
  simp only [c89, go_sem, Nat.reduceLeDiff, Nat.reduceAdd, Nat.reduceSub, Nat.reduceMul, Nat.reduceLT, Int.reduceLT, Int.reduceLE, Int.reduceAdd, Int.reduceSub, Int.reduceMul, Int.reduceToNat, Int.reduceNeg, Int.reduceEq, Nat.reducePow, Int.reducePow, Nat.reduceEqDiff, decide_true, decide_false, reduceIte, reduceCtorEq, Int.reduceBEq, Int.reduceBNe, bne_self_eq_false, Int.cast_ofNat_Int, Bool.not_true, Bool.not_false, IntKind.bits]
  refine csb_a ?_
  refine stp0 ?_
  exact aret_u hs (h)
theorem strs_one (ps : List (List UInt8)) : ∀ x ∈ ps.map strV, x.cells.length = 1 := fun x hx => by obtain ⟨n, _, rfl⟩ := List.mem_map.1 hx; rfl
theorem genSplit_a {s : List UInt8} {c : UInt8} (hl : s.length < 1073741824) (h : ∀ k, K (slA k 1 ((splitA c [] s).map strV)) H) : (ACalls Tryd.prog) 72 [.str (B s), .str (B [c]), .int .i64 0, .int .i64 (-1)] H K := by
  refine acalls_go mo t72 (fun hs hu => ?_)
  have hcl : s.count c ≤ s.length := List.count_le_length
  simp only [c72, go_sem, Nat.reduceLeDiff, Nat.reduceAdd, Nat.reduceSub, Nat.reduceMul, Nat.reduceLT, Int.reduceLT, Int.reduceLE, Int.reduceAdd, Int.reduceSub, Int.reduceMul, Int.reduceToNat, Int.reduceNeg, Int.reduceEq, Nat.reducePow, Int.reducePow, Nat.reduceEqDiff, decide_true, decide_false, reduceIte, reduceCtorEq, Int.reduceBEq, Int.reduceBNe, bne_self_eq_false, Int.cast_ofNat_Int, Bool.not_true, Bool.not_false, IntKind.bits]
  refine stp0 ?_
  refine cnt_a ?_
  have e1 : ((List.count c s : Nat) : Int) + 1 = ((s.count c + 1 : Nat) : Int) := by omega
  have e2 : ¬ ((s.length + 1 : Nat) : Int) < ((s.count c + 1 : Nat) : Int) := by omega
  generalize hn : s.count c = n at *
  refine stp (And.intro e1 e2) ?_
  refine go_loopS mono (σ := List (List UInt8) × List UInt8) (fun z => [(0, .str (B z.2)), (10, .int .i64 (z.1.length : Int))]) (fun z => hp H [.row 9 0 (rowS z.1 (n + 1))]) (fun z => z.1 ++ splitA c [] z.2 = splitA c [] s ∧ z.1.length + z.2.count c = n ∧ z.2.length ≤ s.length) (fun z => z.2.length) ([], s) ?_ (by rw [rowS_0]) ⟨rfl, by rw [List.length_nil, Nat.zero_add]; exact hn, Nat.le_refl _⟩ (fun z hz J hJ => ?_)
  · exact fgt
  obtain ⟨ps, u⟩ := z
  obtain ⟨z1, z2, z3⟩ := hz
  simp only at z1 z2 z3
  have hrl := rowS_len ps (n + 1) (by omega)
  simp only [blurR_nil, blurR_some, blurR_none, blurC_region, blurC_regionN, blurC_fregion, blurT_nil, blurT_cons, blurC_seq, blurC_both, blurC_cond, blurC_block, blurC_loop, blurC_skip, blurC_exit, blurC_ret, tellS_nil, tellS_cons, List.set_cons_zero, List.set_cons_succ, tops_zero, tops_succ]
  by_cases d1 : ps.length < n
  · have hf := count_pos (c := c) (l := u) (by omega)
    have hcu := count_cut hf
    have hib := indexByte_cut (c := c) u
    have hfd := cut1_found hf
    have hsp := split_cut c u []
    rw [if_pos hf] at hib hsp
    have hle := cut1_le (c := c) (l := u)
    have hset := rowS_set ps (cut1 c u).1 (n + 1) (by omega)
    refine stp0 ?_
    refine index_a ?_
    rw [hib]
    obtain ⟨htk, hdr, hul⟩ := cut_parts hfd
    have hlt : (cut1 c u).1.length < u.length := by omega
    have hJ2 := fun a' => hJ (ps ++ [(cut1 c u).1], (cut1 c u).2.1) a' ⟨by
      rw [List.append_assoc, ← z1, hsp, List.nil_append]
      rfl, by show (ps ++ [(cut1 c u).1]).length + (cut1 c u).2.1.count c = n; rw [List.length_append, List.length_singleton]; omega, by show (cut1 c u).2.1.length ≤ s.length; omega⟩ (by show (cut1 c u).2.1.length < u.length; omega)
    clear hJ
    generalize (cut1 c u).1 = p at *
    generalize (cut1 c u).2.1 = q at *
    have e3 : p.length + 0 = p.length := Nat.add_zero _
    refine stp (And.intro htk (And.intro hdr (And.intro hrl (And.intro e3 hset)))) ?_
    rw [show ps.length + 1 = (ps ++ [p]).length by simp]
    exact hJ2 _ fgt
  · have hcz : u.count c = 0 := by omega
    have hpl : ps.length = n := by omega
    have hf : ¬ (cut1 c u).2.2 = true := fun q => by have := count_cut q; omega
    have hsp := split_cut c u []
    rw [if_neg hf, List.nil_append] at hsp
    rw [hsp] at z1
    have hset := rowS_set ps u (n + 1) (by omega)
    have hfull : rowS (ps ++ [u]) (n + 1) = (ps ++ [u]).map strV := by
      unfold rowS
      rw [List.length_append, List.length_singleton, hpl, Nat.sub_self]
      simp
    rw [hfull, hpl] at hset
    rw [← z1] at h
    have hx := h 2
    rw [show slA 2 1 ((ps ++ [u]).map strV) = .imm 1 ((ps ++ [u]).map strV) by cases ps <;> rfl] at hx
    refine stp (And.intro hpl (And.intro hrl hset)) ?_
    exact aret_wr (i := 0) (e := 9) (cs := (ps ++ [u]).map strV) ((ps ++ [u]).map strV) rfl (strs_one _) (by simp [hpl]) (by rw [map_one strV (fun _ => rfl)]) hs (by rw [u_imm, uc_strs]; trivial) hx
theorem split_a {s : List UInt8} {c : UInt8} (hl : s.length < 1073741824) (h : ∀ k, K (slA k 1 ((splitA c [] s).map strV)) H) : (ACalls Tryd.prog) 60 [.str (B s), .str (B [c])] H K := by
  refine acalls_go mo t60 (fun hs hu => ?_)
  simp only [c60, go_sem, Nat.reduceLeDiff, Nat.reduceAdd, Nat.reduceSub, Nat.reduceMul, Nat.reduceLT, Int.reduceLT, Int.reduceLE, Int.reduceAdd, Int.reduceSub, Int.reduceMul, Int.reduceToNat, Int.reduceNeg, Int.reduceEq, Nat.reducePow, Int.reducePow, Nat.reduceEqDiff, decide_true, decide_false, reduceIte, reduceCtorEq, Int.reduceBEq, Int.reduceBNe, bne_self_eq_false, Int.cast_ofNat_Int, Bool.not_true, Bool.not_false, IntKind.bits]
  refine genSplit_a hl (fun k => ?_)
  refine stp0 ?_
  exact aret_plain hs (by rw [u_slA, uc_strs]; trivial) (h k)
end
end Go.Proofs.YtdknpnmdjjmapaaDoor.AL
/- The kit's own contracts as told calls. -/
namespace Go.Proofs.YtdknpnmdjjmapaaDoor.AL
open Go Go.RowKit
theorem acalls_calls {P : Program} {f n : Nat} {ac : ACode} {rs : List RV} (hT : Told P f n ac rs) {args : List AV} {H : AHeap} {K : AV → AHeap → Prop}
    (h : ∀ g w vs, Sim g w H → Reps g w vs args → Calls P f vs w (fun e w' => ∃ v y H' g', e = .returned v ∧ K y H' ∧ Ext g w g' w' ∧ Sim g' w' H' ∧ Rep g' w' v y)) : ACalls P f args H K := by
  obtain ⟨fn, c, W, hf, hb, hname, _⟩ := hT.tell
  intro g w vs hS hR o act next Qc hn
  have hrun : (callFunc f vs).run P w = .ok (.enter f vs) w := by
    simp only [callFunc, Sem.run_bind, run_program, Result.andThen_ok, hf, hname, hb, Option.isNone_some, Bool.false_eq_true, if_false, Sem.run_pure]
  rw [hrun, Oper.upon_enter]
  refine (h g w vs hS hR).mono (fun e w' he => ?_)
  obtain ⟨v, y, H', g', rfl, hk, hE, hS', hr⟩ := he
  exact hn y H' g' w' v hk hE hS' hr
theorem sim_below {g : Ghost} {w w' : World} {H : AHeap} (hS : Sim g w H) (hb : Below w.heap.size w w') : Ext g w g w' ∧ Sim g w' H := by
  obtain ⟨h1, h2, h3, h4, h5⟩ := hb
  have hE : Ext g w g w' := ⟨fun _ _ _ h => h, fun _ h => h, fun b hb => h5 b (hS.zlt b hb), fun b s h => by
    have hl : b < w.heap.size := by
      rcases Nat.lt_or_ge b w.heap.size with q | q
      · exact q
      · unfold World.shape? at h
        rw [Array.getElem?_eq_none q] at h
        cases h
    unfold World.shape? at h ⊢
    rw [h5 b hl]
    exact h, h4, h1, h2, h3, fun _ _ h => h, fun b hb _ => h5 b hb⟩
  exact ⟨hE, ⟨fun b hb => Nat.lt_of_lt_of_le (hS.zlt b hb) h4, fun i k b hb => ⟨(hS.mlt i k b hb).1, Nat.lt_of_lt_of_le (hS.mlt i k b hb).2 h4⟩, fun i o ho => (hS.live i o ho).ext hE (fun b hb => h5 b (hS.mlt _ _ _ hb).2), hS.inj, hS.nz, hS.gen, hS.var.ext hE⟩⟩
end Go.Proofs.YtdknpnmdjjmapaaDoor.AL
/- The kit's Join, laid at this program. -/
set_option linter.unusedVariables false
set_option maxRecDepth 100000
namespace Go.Proofs
open Go.Shelf
shelf_lay Lays.n156 Nm 156 at Tryd as Tryd.lays156
theorem Tryd.Builder_Extra_156 : Builder.Extra Tryd.prog Tryd.lays156_ren where
  sizeBuilder := by kernel_rfl
  liesBuilder := by kernel_rfl
  t5 := Tryd.underlying5
  a5 := Tryd.isAgg5
  z5 := Tryd.sizeOf5
  v5 := Tryd.zeroValue5
  infoByte := by kernel_rfl
  cellsByte := by kernel_rfl
  sizeByte := by kernel_rfl
  neB5 := by decide
namespace YtdknpnmdjjmapaaDoor.AL
open Go Go.RowKit
theorem join_a {n : Nat} {ac : ACode} {rs : List RV} (hT : Told Tryd.prog 62 n ac rs) {ls : List (List UInt8)} {sep : List UInt8} {H : AHeap} {K : AV → AHeap → Prop} (hne : ls ≠ []) (hN : ls.length ≤ 140737488355328) (hl : (Lib.join ls sep).length ≤ 140737488355328) (h : K (.str (B (Lib.join ls sep))) H) : (ACalls Tryd.prog) 62 [.imm 1 (ls.map fun s => .str (B s)), .str (B sep)] H K :=
  acalls_calls hT fun g w vs hS hR => by
    obtain ⟨u, v, rfl, h1, h2⟩ := reps_two hR
    have e2 := str_inv h2
    subst e2
    obtain ⟨b, o, c, cu, rfl, hc, _, hz, _, hcell, hrep⟩ := h1.imm_inv
    have hmap : ((ls.map B).map (·.data.toList)) = ls := by
      rw [List.map_map]
      exact (List.map_congr_left (fun x _ => by simp [B])).trans (List.map_id _)
    have := Any.strings_Join Tryd.lays156 Tryd.Builder_Extra_156 b o c (ls.map B) (B sep) w (fun j x hx => by
      rw [List.getElem?_map] at hx
      obtain ⟨s, hs, rfl⟩ := Option.map_eq_some_iff.1 hx
      have hj : j < ls.length := (List.getElem?_eq_some_iff.1 hs).1
      rw [hcell j (by rw [List.length_map]; omega)]
      have := hrep j (.str (B s)) 0 (.str (B s)) (by rw [List.getElem?_map, hs]; rfl) rfl
      rw [Nat.mul_one, Nat.add_zero] at this
      rw [str_inv this]) (hS.zlt _ hz) (by rw [List.length_map]; exact hN) (by rw [List.length_map] at hc ⊢; exact hc) (by rw [hmap]; simpa [B] using hl)
    rw [List.length_map] at this ⊢
    refine this.mono (fun e w' he => ?_)
    obtain ⟨rfl, hb⟩ := he
    obtain ⟨hE, hS'⟩ := sim_below hS hb
    refine ⟨_, _, H, g, rfl, h, hE, hS', ?_⟩
    rw [hmap]
    have : (B sep).data.toList = sep := by simp [B]
    rw [this]
    exact .str _
end YtdknpnmdjjmapaaDoor.AL
end Go.Proofs

/- Paths told: the program's names of a path, and what is looked for among kids and properties. -/
set_option linter.unusedSimpArgs false
set_option linter.unusedVariables false
set_option maxRecDepth 100000
set_option maxHeartbeats 16000000
namespace Go.Proofs.YtdknpnmdjjmapaaDoor.AL
open Go Go.Proofs
attribute [local go_sem] go_seq go_skip go_region go_regionN go_fregion rgF_some go_cond go_block go_exit go_ret nxt_nil nxt_code nxt_blk nxt_cut leave_nil leave_code leave_cut leave_blk rtn_nil rtn_code rtn_blk rtn_cut cnd_t cnd_f rgn_nil rgY_some rgY_none rgH_some rgP_some retTo_is rgV_func grd_und grd_tt grd_ff grd_tf grd_ft rgn_q rgn_alloc rgn_box rgn_store rgn_lit rgn_litw litCells_nil litCells_cons rgn_app rgn_copy rgn_mk rgn_s2b rgn_call rgn_callv rgn_stop rgn_slice3 aslice3 rgn_slice3l aslice3l rgn_appz rgn_clear rgn_range rgn_next arange acap rgn_put rgn_mkmap rgn_lookup rgn_mapup alookup_nilm alookup_map amapup_map afound_ok afound_no rgn_c rgn_cv qclV_func aloadr rgn_guard post_ret post_normal retY_some ares aresL ares1 AX.ev aput List.getD_cons_zero List.getD_cons_succ List.set_cons_zero List.set_cons_succ List.map_cons List.map_nil aq abin aint astr abeq aconv asame aextract alenS alenL_nils alenL_emp alenL_imm alenL_wr alenL_wc aun apart aload afieldAddr afield aidxSl_wr aidxSl_wc aidxSl_imm aidxPt aidxStr aidxArr abound asliceStr asliceSl asliceArr abest anonil afill astore acells_nils acells_emp acells_imm acells_wr acells_wc acells_str acopy litAll amk as2b anil nilOf aseq aeqs aeqv fits fit1 hp_next hp_push hp_get hp_set List.length_cons List.length_nil List.getElem?_cons_zero List.getElem?_cons_succ List.cons_append List.nil_append List.append_nil List.take_succ_cons List.take_zero List.drop_succ_cons List.drop_zero List.all_cons List.all_nil Option.map_some Option.some.injEq Bool.and_true Bool.true_and Bool.false_eq_true if_true if_false ite_true ite_false Bool.and_self true_and and_true and_self Nat.zero_add Nat.le_refl Int.toNat_natCast beq_self_eq_true eq_self tops_zero tops_succ Int.natCast_nonneg List.take_nil List.drop_nil Option.map_none flat_bool one_bool cells_bool flat_int one_int cells_int flat_str one_str cells_str flat_nilp one_nilp cells_nilp flat_ptr one_ptr cells_ptr flat_nils one_nils cells_nils flat_imm one_imm cells_imm flat_wr one_wr cells_wr flat_wc one_wc cells_wc flat_func one_func cells_func flat_nilf one_nilf cells_nilf flat_map one_map cells_map flat_nilm one_nilm cells_nilm flat_iface one_iface cells_iface flat_nili one_nili cells_nili flat_rd one_rd cells_rd flat_emp one_emp cells_emp flat_byteV one_byteV cells_byteV flat_agg cells_agg one_agg B_size B_list B_ext B_toList B_app List.take_length Int.le_refl
def ixOf {α : Type} (p : α → Bool) : List α → Nat → Int
  | [], _ => -1
  | x :: xs, i => if p x = true then (i : Int) else ixOf p xs (i + 1)
theorem ixOf_any {α : Type} (p : α → Bool) : ∀ (xs : List α) (i : Nat), decide (0 ≤ ixOf p xs i) = xs.any p
  | [], i => rfl
  | x :: xs, i => by
    unfold ixOf
    split
    · rename_i h
      rw [List.any_cons, h, decide_eq_true (by omega)]
      rfl
    · rename_i h
      rw [Bool.not_eq_true] at h
      rw [List.any_cons, h, Bool.false_or, ixOf_any p xs (i + 1)]
theorem ixOf_drop {α : Type} (p : α → Bool) (xs : List α) (i : Nat) (d : α) (h : i < xs.length) : ixOf p (xs.drop i) i = if p (xs.getD i d) = true then (i : Int) else ixOf p (xs.drop (i + 1)) (i + 1) := by
  rw [List.drop_eq_getElem_cons h, ixOf]
  rw [List.getD_eq_getElem?_getD, List.getElem?_eq_getElem h]
  rfl
theorem ixOf_find {α : Type} (p : α → Bool) (d : α) : ∀ (xs : List α) (i : Nat), (xs.find? p = none ∧ ixOf p xs i = -1) ∨ ∃ j, ixOf p xs i = ((i + j : Nat) : Int) ∧ j < xs.length ∧ xs.find? p = some (xs.getD j d)
  | [], i => .inl ⟨rfl, rfl⟩
  | x :: xs, i => by
    rw [ixOf]
    by_cases h : p x = true
    · rw [if_pos h, List.find?_cons_of_pos h]
      exact .inr ⟨0, rfl, by simp, rfl⟩
    · rw [if_neg h, List.find?_cons_of_neg h]
      rcases ixOf_find p d xs (i + 1) with ⟨h1, h2⟩ | ⟨j, h1, h2, h3⟩
      · exact .inl ⟨h1, h2⟩
      · exact .inr ⟨j + 1, by rw [h1]; omega, by rw [List.length_cons]; omega, by rw [h3]; rfl⟩
theorem scan_split : ∀ (rest cur : List UInt8) (out : List (List UInt8)), out.length ≤ 7 → scanP cur out rest = if (splitA 47 cur rest).contains [] = false ∧ out.length + (splitA 47 cur rest).length ≤ 7 then some (out ++ splitA 47 cur rest) else none
  | [], cur, out, ho => by
    rw [scanP, splitA]
    by_cases h : cur = [] ∨ out.length = 7
    · rw [if_pos h, if_neg]
      rintro ⟨h1, h2⟩
      rcases h with rfl | h
      · simp at h1
      · rw [List.length_singleton] at h2
        omega
    · rw [if_neg h, if_pos]
      rw [not_or] at h
      refine ⟨?_, by rw [List.length_singleton]; omega⟩
      rw [List.contains_cons, List.contains_nil, Bool.or_false]
      simpa using fun e => h.1 e
  | c :: rest, cur, out, ho => by
    rw [scanP, splitA]
    by_cases hc : c = 47
    · rw [if_pos hc, if_pos hc]
      by_cases h : cur = [] ∨ out.length = 7
      · rw [if_pos h, if_neg]
        rintro ⟨h1, h2⟩
        rcases h with rfl | h
        · simp at h1
        · rw [List.length_cons] at h2
          omega
      · rw [if_neg h, scan_split rest [] (out ++ [cur]) (by rw [List.length_append, List.length_singleton]; rw [not_or] at h; omega)]
        rw [not_or] at h
        have e : (cur :: splitA 47 [] rest).contains [] = (splitA 47 [] rest).contains [] := by
          rw [List.contains_cons]
          have : (([] : List UInt8) == cur) = false := by simpa using fun e => h.1 e
          rw [this, Bool.false_or]
        rw [e]
        have e2 : (out ++ [cur]).length + (splitA 47 [] rest).length = out.length + (cur :: splitA 47 [] rest).length := by
          simp only [List.length_append, List.length_cons, List.length_nil]
          omega
        rw [e2, List.append_assoc]
        rfl
    · rw [if_neg hc, if_neg hc]
      exact scan_split rest _ out ho
section
variable {H : AHeap} {K : AV → AHeap → Prop}
theorem hasPre_a {l p : List UInt8} (hl : l.length < 9223372036854775808) (hp : p.length < 9223372036854775808) (h : K (.bool (decide (l.take p.length = p))) H) : (ACalls Tryd.prog) 87 [.str (B l), .str (B p)] H K := by
  refine acalls_go mo t87 (fun hs hu => ?_)
  simp only [c87, go_sem, Nat.reduceLeDiff, Nat.reduceAdd, Nat.reduceSub, Nat.reduceMul, Nat.reduceLT, Int.reduceLT, Int.reduceLE, Int.reduceAdd, Int.reduceSub, Int.reduceMul, Int.reduceToNat, Int.reduceNeg, Int.reduceEq, Nat.reducePow, Int.reducePow, Nat.reduceEqDiff, decide_true, decide_false, reduceIte, reduceCtorEq, Int.reduceBEq, Int.reduceBNe, bne_self_eq_false, Int.cast_ofNat_Int, Bool.not_true, Bool.not_false, IntKind.bits]
  by_cases h1 : p.length ≤ l.length
  · refine stp0 ?_
    exact aret_u hs (h)
  · have e : ¬ l.take p.length = p := fun e => h1 (by rw [← e, List.length_take]; exact Nat.min_le_right _ _)
    rw [decide_eq_false e] at h
    refine stp0 ?_
    exact aret_u hs (h)
theorem scutPre_a {l p : List UInt8} (hl : l.length < 9223372036854775808) (hp : p.length < 9223372036854775808) (h : K (if l.take p.length = p then .tup [.str (B (l.drop p.length)), .bool true] else .tup [.str (B l), .bool false]) H) : (ACalls Tryd.prog) 71 [.str (B l), .str (B p)] H K := by
  refine acalls_go mo t71 (fun hs hu => ?_)
  simp only [c71, go_sem, Nat.reduceLeDiff, Nat.reduceAdd, Nat.reduceSub, Nat.reduceMul, Nat.reduceLT, Int.reduceLT, Int.reduceLE, Int.reduceAdd, Int.reduceSub, Int.reduceMul, Int.reduceToNat, Int.reduceNeg, Int.reduceEq, Nat.reducePow, Int.reducePow, Nat.reduceEqDiff, decide_true, decide_false, reduceIte, reduceCtorEq, Int.reduceBEq, Int.reduceBNe, bne_self_eq_false, Int.cast_ofNat_Int, Bool.not_true, Bool.not_false, IntKind.bits]
  refine hasPre_a hl hp ?_
  by_cases h1 : l.take p.length = p
  · have h2 : p.length ≤ l.length := by
      have := congrArg List.length h1
      rw [List.length_take] at this
      omega
    rw [if_pos h1] at h
    rw [decide_eq_true h1]
    refine stp0 ?_
    exact aret_u hs (h)
  · rw [if_neg h1] at h
    rw [decide_eq_false h1]
    refine stp0 ?_
    exact aret_u hs (h)
theorem cutPre_a {l p : List UInt8} (hl : l.length < 9223372036854775808) (hp : p.length < 9223372036854775808) (h : K (if l.take p.length = p then .tup [.str (B (l.drop p.length)), .bool true] else .tup [.str (B l), .bool false]) H) : (ACalls Tryd.prog) 59 [.str (B l), .str (B p)] H K := by
  refine acalls_go mo t59 (fun hs hu => ?_)
  simp only [c59, go_sem, Nat.reduceLeDiff, Nat.reduceAdd, Nat.reduceSub, Nat.reduceMul, Nat.reduceLT, Int.reduceLT, Int.reduceLE, Int.reduceAdd, Int.reduceSub, Int.reduceMul, Int.reduceToNat, Int.reduceNeg, Int.reduceEq, Nat.reducePow, Int.reducePow, Nat.reduceEqDiff, decide_true, decide_false, reduceIte, reduceCtorEq, Int.reduceBEq, Int.reduceBNe, bne_self_eq_false, Int.cast_ofNat_Int, Bool.not_true, Bool.not_false, IntKind.bits]
  refine scutPre_a hl hp ?_
  by_cases h1 : l.take p.length = p
  · rw [if_pos h1] at h ⊢
    refine stp0 ?_
    exact aret_u hs (h)
  · rw [if_neg h1] at h ⊢
    refine stp0 ?_
    exact aret_u hs (h)
theorem indexS_s {k : Nat} {ls : List (List UInt8)} {x : List UInt8} (hn : ls.length ≤ 9223372036854775807) (h : K (.int .i64 (ixOf (fun y => decide (x = y)) ls 0)) H) : (ACalls Tryd.prog) 73 [slA k 1 (ls.map strV), .str (B x)] H K := by
  refine acalls_go mo t73 (fun hs hu => ?_)
  simp only [c73, go_sem, Nat.reduceLeDiff, Nat.reduceAdd, Nat.reduceSub, Nat.reduceMul, Nat.reduceLT, Int.reduceLT, Int.reduceLE, Int.reduceAdd, Int.reduceSub, Int.reduceMul, Int.reduceToNat, Int.reduceNeg, Int.reduceEq, Nat.reducePow, Int.reducePow, Nat.reduceEqDiff, decide_true, decide_false, reduceIte, reduceCtorEq, Int.reduceBEq, Int.reduceBNe, bne_self_eq_false, Int.cast_ofNat_Int, Bool.not_true, Bool.not_false, IntKind.bits]
  refine stp0 ?_
  refine go_loopS mono (σ := Nat) (fun i => [(8, .int .i64 (i : Int))]) (fun i => hp H []) (fun i => i ≤ ls.length ∧ ixOf (fun y => decide (x = y)) (ls.drop i) i = ixOf (fun y => decide (x = y)) ls 0) (fun i => ls.length - i) 0 ?_ rfl ⟨Nat.zero_le _, rfl⟩ (fun i hi J hJ => ?_)
  · exact fgt
  obtain ⟨hil, hid⟩ := hi
  simp only [blurR_nil, blurR_some, blurR_none, blurC_region, blurC_regionN, blurC_fregion, blurT_nil, blurT_cons, blurC_seq, blurC_both, blurC_cond, blurC_block, blurC_loop, blurC_skip, blurC_exit, blurC_ret, tellS_nil, tellS_cons, List.set_cons_zero, List.set_cons_succ, tops_zero, tops_succ]
  by_cases h1 : i < ls.length
  · have ha := strs_at h1
    rw [ixOf_drop _ ls i [] h1] at hid
    generalize ls.getD i [] = y at *
    by_cases h2 : x = y
    · rw [if_pos (decide_eq_true h2)] at hid
      rw [← hid] at h
      refine stp (And.intro ha h2) ?_
      exact aret_u hs (h)
    · rw [if_neg (by rw [decide_eq_false h2]; exact Bool.false_ne_true)] at hid
      refine stp (And.intro ha h2) ?_
      exact hJ (i + 1) _ ⟨h1, hid⟩ (by omega) fgt
  · rw [List.drop_of_length_le (by omega)] at hid
    rw [← hid] at h
    refine stp0 ?_
    exact aret_u hs (h)
theorem any_contains (x : List UInt8) (ls : List (List UInt8)) : ls.any (fun y => decide (x = y)) = ls.contains x := by
  rw [Bool.eq_iff_iff]
  simp
theorem containsS_a {k : Nat} {ls : List (List UInt8)} {x : List UInt8} (hn : ls.length ≤ 9223372036854775807) (h : K (.bool (ls.contains x)) H) : (ACalls Tryd.prog) 61 [slA k 1 (ls.map strV), .str (B x)] H K := by
  refine acalls_go mo t61 (fun hs hu => ?_)
  simp only [c61, go_sem, Nat.reduceLeDiff, Nat.reduceAdd, Nat.reduceSub, Nat.reduceMul, Nat.reduceLT, Int.reduceLT, Int.reduceLE, Int.reduceAdd, Int.reduceSub, Int.reduceMul, Int.reduceToNat, Int.reduceNeg, Int.reduceEq, Nat.reducePow, Int.reducePow, Nat.reduceEqDiff, decide_true, decide_false, reduceIte, reduceCtorEq, Int.reduceBEq, Int.reduceBNe, bne_self_eq_false, Int.cast_ofNat_Int, Bool.not_true, Bool.not_false, IntKind.bits]
  refine indexS_s hn ?_
  rw [← any_contains, ← ixOf_any _ ls 0] at h
  refine stp0 ?_
  exact aret_u hs (h)
def partsV (k : Nat) : Option (List (List UInt8)) → AV
  | some ns => .tup [slA k 1 (ns.map strV), .bool true]
  | none => .tup [.nils, .bool false]
theorem partsV_s (k : Nat) (ns : List (List UInt8)) : partsV k (some ns) = .tup [slA k 1 (ns.map strV), .bool true] := rfl
theorem partsV_n (k : Nat) : partsV k none = .tup [.nils, .bool false] := rfl
theorem take_one {p : List UInt8} : (p.take ([47] : List UInt8).length = [47]) ↔ p.getD 0 0 = 47 ∧ p ≠ [] := by
  cases p with
  | nil => simp
  | cons c r => simp
theorem Parts_a {p : List UInt8} (hl : p.length < 1073741824) (h : ∀ k, K (partsV k (partsP p)) H) : (ACalls Tryd.prog) 39 [.str (B p)] H K := by
  refine acalls_go mo t39 (fun hs hu => ?_)
  unfold partsP at h
  simp only [c39, go_sem, Nat.reduceLeDiff, Nat.reduceAdd, Nat.reduceSub, Nat.reduceMul, Nat.reduceLT, Int.reduceLT, Int.reduceLE, Int.reduceAdd, Int.reduceSub, Int.reduceMul, Int.reduceToNat, Int.reduceNeg, Int.reduceEq, Nat.reducePow, Int.reducePow, Nat.reduceEqDiff, decide_true, decide_false, reduceIte, reduceCtorEq, Int.reduceBEq, Int.reduceBNe, bne_self_eq_false, Int.cast_ofNat_Int, Bool.not_true, Bool.not_false, IntKind.bits]
  by_cases h1 : p = [47]
  · rw [if_pos h1] at h
    have hx := h 0
    rw [partsV_s] at hx
    have hx : K (.tup [.nils, .bool true]) H := hx
    refine stp h1 ?_
    exact aret_u hs (hx)
  rw [if_neg h1] at h
  refine stp h1 ?_
  refine cutPre_a (by omega) (by decide) ?_
  have hno := h 0
  by_cases h2 : p.getD 0 0 = 47
  · have h3 : p.take ([47] : List UInt8).length = [47] := take_one.2 ⟨h2, fun e => by rw [e] at h2; revert h2; decide⟩
    rw [if_pos h2, scan_split _ _ _ (by simp), List.nil_append, List.length_nil, Nat.zero_add] at h hno
    rw [if_pos h3, show ([47] : List UInt8).length = 1 from rfl]
    have hcnt := split_len 47 (p.drop 1) []
    have hcl := List.count_le_length (a := (47 : UInt8)) (l := p.drop 1)
    rw [List.length_drop] at hcl
    refine stp0 ?_
    refine split_a (by rw [List.length_drop]; omega) (fun k => ?_)
    by_cases h4 : (splitA 47 [] (p.drop 1)).length ≤ 7
    · refine stp0 ?_
      refine containsS_a (by omega) ?_
      cases h5 : (splitA 47 [] (p.drop 1)).contains [] with
      | true =>
        rw [h5, if_neg (by rintro ⟨q, _⟩; cases q), partsV_n] at hno
        refine stp0 ?_
        exact aret_u hs (hno)
      | false =>
        have hx := h k
        rw [h5, if_pos ⟨rfl, h4⟩, partsV_s] at hx
        refine stp0 ?_
        exact aret_plain hs (by simp only [u_tup, u_cons, u_nil, u_bool, u_slA, and_true]; rw [uc_strs]; trivial) hx
    · rw [if_neg (fun q => h4 q.2), partsV_n] at hno
      refine stp0 ?_
      exact aret_u hs (hno)
  · have h3 : ¬ p.take ([47] : List UInt8).length = [47] := fun q => h2 (take_one.1 q).1
    rw [if_neg h2, partsV_n] at hno
    rw [if_neg h3]
    refine stp0 ?_
    refine split_a (by omega) (fun k => ?_)
    refine stp0 ?_
    exact aret_u hs (hno)
end
/-- Nodes of which the first one of a name is another one. -/
def repl (nm : List UInt8) (f : Tr → Tr × Int) : List Tr → Option (List Tr × Int)
  | [] => none
  | k :: ks => if k.name = nm then some ((f k).1 :: ks, (f k).2) else (repl nm f ks).map (fun r => (k :: r.1, r.2))
def downS (f : Tr → Tr × Int) : List (List UInt8) → Tr → Tr × Int
  | [], t => f t
  | nm :: ns, t => match repl nm (downS f ns) t.kids with
    | none => (t, 8)
    | some r => (.mk t.name 0 t.props 0 r.1, r.2)
theorem repl_none {nm : List UInt8} {f : Tr → Tr × Int} : ∀ {ks : List Tr}, (∀ i, i < ks.length → ¬ (ks.getD i tr0).name = nm) → repl nm f ks = none
  | [], _ => rfl
  | k :: ks, h => by
    rw [repl, if_neg (show ¬ k.name = nm from h 0 (by simp)), repl_none (fun i hi => h (i + 1) (by simpa using hi))]
    rfl
theorem repl_at {nm : List UInt8} {f : Tr → Tr × Int} : ∀ {ks : List Tr} {i : Nat}, i < ks.length → (ks.getD i tr0).name = nm → (∀ j, j < i → ¬ (ks.getD j tr0).name = nm) → repl nm f ks = some (ks.set i (f (ks.getD i tr0)).1, (f (ks.getD i tr0)).2)
  | [], i, h, _, _ => absurd h (Nat.not_lt_zero _)
  | k :: ks, 0, _, h, _ => by
    have h : k.name = nm := h
    rw [repl, if_pos h]
    rfl
  | k :: ks, i + 1, hi, h, h2 => by
    rw [repl, if_neg (show ¬ k.name = nm from h2 0 (by omega)), repl_at (i := i) (by simpa using hi) h (fun j hj => h2 (j + 1) (by omega))]
    rfl
/-- What is done at a node: a function value, and what it makes of the tree there. -/
def DoOk (G0 : AHeap) (fid : Nat) (caps : List AV) (f : Tr → Tr × Int) : Prop :=
  ∀ (t : Tr) (G : AHeap) (pid pg po : Nat) (R cs : List AV) (F : List Nat) (K : AV → AHeap → Prop), TrB t → G.get pid = some (.row 25 pg R) → po + 3 ≤ R.length → (R.drop po).take 3 = cs → MT G cs t F → F.Nodup → pid ∉ F →
    Past G0 G → G0.next ≤ pid → (∀ x ∈ F, G0.next ≤ x) → G.within G.next →
    (∀ G', (∀ x, x < G.next → x ≠ pid → x ∉ F → G'.get x = G.get x) → G'.within G'.next → G.next ≤ G'.next → ((f t).2 = 0 → Chg G pid pg po R F (f t).1 G') → K (.int .i64 (f t).2) G') → (ACalls Tryd.prog) fid ([] ++ [.ptr pid pg po] ++ caps) G K
theorem chg_hp {G G' : AHeap} {pid pg po : Nat} {R : List AV} {F : List Nat} {t' : Tr} {l : List AObj} (h : Chg (hp G l) pid pg po R F t' G') : Chg G pid pg po R F t' G' := by
  obtain ⟨h1, h2, h3, cs', F', h4, h5, h6, h7, h8⟩ := h
  have hn : G.next ≤ (hp G l).next := Nat.le_add_right _ _
  exact ⟨Nat.le_trans hn h1, h2, fun x hx hp_ hF => (h3 x (by omega) hp_ hF).trans (hp_old hx), cs', F', h4, h5, h6, h7, fun x hx => (h8 x hx).imp id (fun q => by omega)⟩
section
variable {H : AHeap} {K : AV → AHeap → Prop}
theorem nodeIx_a {n0 : Nat} {v : AV} {css : List (List AV)} {p : Nat → Bool} {f : Nat} {cs : List AV} (hv : SlAt n0 H 25 3 v (css.map AV.agg)) (hl : ∀ x ∈ css, x.length = 3) (hn : css.length ≤ 1000000)
    (hpp : ∀ i, i < css.length → ∀ K : AV → AHeap → Prop, K (.bool (p i)) H → (ACalls Tryd.prog) f ([] ++ [.agg (css.getD i [])] ++ cs) H K) (hno : (∀ j, j < css.length → p j = false) → K (.int .i64 (-1)) H) (hyes : ∀ i, i < css.length → p i = true → (∀ j, j < i → p j = false) → K (.int .i64 (i : Int)) H) :
    (ACalls Tryd.prog) 42 [v, .func (.func f) [] cs] H K := by
  refine acalls_go mo t42 (fun hs hu => ?_)
  rcases hv with ⟨rfl, he⟩ | ⟨id, gen, rfl, hid, hg⟩
  · have hl0 : css = [] := by simpa using he
    subst hl0
    have h := hno (fun j hj => absurd hj (Nat.not_lt_zero _))
    simp only [c42, go_sem, Nat.reduceLeDiff, Nat.reduceAdd, Nat.reduceSub, Nat.reduceMul, Nat.reduceLT, Int.reduceLT, Int.reduceLE, Int.reduceAdd, Int.reduceSub, Int.reduceMul, Int.reduceToNat, Int.reduceNeg, Int.reduceEq, Nat.reducePow, Int.reducePow, Nat.reduceEqDiff, decide_true, decide_false, reduceIte, reduceCtorEq, Int.reduceBEq, Int.reduceBNe, bne_self_eq_false, Int.cast_ofNat_Int, Bool.not_true, Bool.not_false, IntKind.bits]
    refine go_rounds mono 1 ?_
    simp only [rnds_succ, go_sem, Nat.reduceLeDiff, Nat.reduceAdd, Nat.reduceSub, Nat.reduceMul, Nat.reduceLT, Int.reduceLT, Int.reduceLE, Int.reduceAdd, Int.reduceSub, Int.reduceMul, Int.reduceToNat, Int.reduceNeg, Int.reduceEq, Nat.reducePow, Int.reducePow, Nat.reduceEqDiff, decide_true, decide_false, reduceIte, reduceCtorEq, Int.reduceBEq, Int.reduceBNe, bne_self_eq_false, Int.cast_ofNat_Int, Bool.not_true, Bool.not_false, IntKind.bits]
    exact aret_u hs (h)
  · have hlg := H.lt hg
    rw [agg_flat] at hg
    rw [List.length_map]
    have hfl := flat_len3 css hl
    have hcell := fun i (hi : i < css.length) => flat_get3 css i hl hi
    generalize css.flatten = R at *
    simp only [c42, go_sem, Nat.reduceLeDiff, Nat.reduceAdd, Nat.reduceSub, Nat.reduceMul, Nat.reduceLT, Int.reduceLT, Int.reduceLE, Int.reduceAdd, Int.reduceSub, Int.reduceMul, Int.reduceToNat, Int.reduceNeg, Int.reduceEq, Nat.reducePow, Int.reducePow, Nat.reduceEqDiff, decide_true, decide_false, reduceIte, reduceCtorEq, Int.reduceBEq, Int.reduceBNe, bne_self_eq_false, Int.cast_ofNat_Int, Bool.not_true, Bool.not_false, IntKind.bits]
    refine go_loopS mono (σ := Nat) (fun i => [(8, .int .i64 (i : Int))]) (fun i => hp H []) (fun i => i ≤ css.length ∧ ∀ j, j < i → p j = false) (fun i => css.length - i) 0 ?_ rfl ⟨Nat.zero_le _, fun j hj => absurd hj (Nat.not_lt_zero _)⟩ (fun i hi J hJ => ?_)
    · exact fgt
    obtain ⟨hil, hix⟩ := hi
    simp only [blurR_nil, blurR_some, blurR_none, blurC_region, blurC_regionN, blurC_fregion, blurT_nil, blurT_cons, blurC_seq, blurC_both, blurC_cond, blurC_block, blurC_loop, blurC_skip, blurC_exit, blurC_ret, tellS_nil, tellS_cons, List.set_cons_zero, List.set_cons_succ, tops_zero, tops_succ]
    by_cases h1 : i < css.length
    · have hcm := hcell i h1
      refine stp (And.intro hg hcm) ?_
      rw [hp_nil]
      refine hpp i h1 _ ?_
      rw [← hp_nil (H := H)]
      cases h2 : p i with
      | true =>
        have h := hyes i h1 h2 hix
        refine stp0 ?_
        exact aret_u hs (h)
      | false =>
        refine stp0 ?_
        exact hJ (i + 1) _ ⟨h1, fun j hj => by
          by_cases e : j = i
          · rw [e]
            exact h2
          · exact hix j (by omega)⟩ (by omega) fgt
    · have h := hno (fun j hj => hix j (by omega))
      refine stp0 ?_
      exact aret_u hs (h)
theorem dn1_a {nid k : Nat} {x nm : List UInt8} {ns : List (List UInt8)} {a b : AV} (hg : H.get nid = some (.row 54 0 [slA k 1 ((nm :: ns).map strV)])) (ha : a.flat = true ∧ a.cells = [a] ∧ a.one = true) (hb : b.flat = true ∧ b.cells = [b] ∧ b.one = true) (h : K (.bool (decide (x = nm))) H) :
    (ACalls Tryd.prog) 67 [.agg [.str (B x), a, b], .ptr nid 0 0] H K := by
  refine acalls_go mo t67 (fun hs hu => ?_)
  have hlt := H.lt hg
  obtain ⟨a1, a2, a3⟩ := ha
  obtain ⟨b1, b2, b3⟩ := hb
  rw [List.map_cons] at hg
  simp only [c67, go_sem, Nat.reduceLeDiff, Nat.reduceAdd, Nat.reduceSub, Nat.reduceMul, Nat.reduceLT, Int.reduceLT, Int.reduceLE, Int.reduceAdd, Int.reduceSub, Int.reduceMul, Int.reduceToNat, Int.reduceNeg, Int.reduceEq, Nat.reducePow, Int.reducePow, Nat.reduceEqDiff, decide_true, decide_false, reduceIte, reduceCtorEq, Int.reduceBEq, Int.reduceBNe, bne_self_eq_false, Int.cast_ofNat_Int, Bool.not_true, Bool.not_false, IntKind.bits]
  refine stp (And.intro a1 (And.intro a2 (And.intro a3 (And.intro b1 (And.intro b2 (And.intro b3 hg)))))) ?_
  exact aret_u hs (h)
theorem slA_dropM (k sz : Nat) (xs : List AV) {i : Nat} (hi : i ≤ xs.length) : ∃ k', asliceSl sz (slA k sz xs) (some (.int .i64 (i : Int))) none = some (slA k' sz (xs.drop i)) := by
  rcases slA_cases k sz xs with ⟨h, rfl⟩ | ⟨h, rfl⟩ | h
  · have h0 : i = 0 := by simpa using hi
    subst h0
    exact ⟨0, by rw [h]; rfl⟩
  · have h0 : i = 0 := by simpa using hi
    subst h0
    exact ⟨1, by rw [h]; rfl⟩
  · refine ⟨2, ?_⟩
    have : slA 2 sz (xs.drop i) = .imm sz (xs.drop i) := by cases xs.drop i <;> rfl
    rw [h, this]
    simp only [asliceSl, abound]
    simp
    omega
theorem names_u (n k : Nat) (names : List (List UInt8)) : (slA k 1 (names.map strV)).under n := by simp only [u_top, u_bool, u_int, u_str, u_nilp, u_nils, u_nilf, u_nilm, u_nili, u_emp, u_byteV, u_ptr, u_wr, u_wc, u_agg, u_tup, u_rd, u_imm, u_func, u_nil, u_cons, u_app, uc_nil, uc_cons, uc_app, u_bytes, uc_bytes, u_ints, uc_ints, cells_bool, cells_int, cells_str, cells_agg, cells_ptr, cells_nils, cells_imm, cells_wr, cells_wc, cells_nilp, cells_nilf, cells_nilm, cells_rd, cells_emp, cells_byteV, cells_func, and_self, and_true, true_and, u_slA, uc_strs, cells_slA, strV_is]
end
theorem nodup_getD : ∀ {fps : List (List Nat)}, fps.flatten.Nodup → ∀ i, (fps.getD i []).Nodup
  | [], _, i => by simp
  | f :: fps, h, i => by
    rw [List.flatten_cons, List.nodup_append] at h
    cases i with
    | zero => exact h.1
    | succ i => exact nodup_getD h.2.1 i
theorem down_a {G0 : AHeap} {fid : Nat} {caps : List AV} {f : Tr → Tr × Int} (hdo : DoOk G0 fid caps f) : ∀ (names : List (List UInt8)) (k : Nat) (t : Tr) (G : AHeap) (pid pg po : Nat) (R cs : List AV) (F : List Nat) (K : AV → AHeap → Prop), names.length ≤ 100000 → TrB t → G.get pid = some (.row 25 pg R) → po + 3 ≤ R.length → (R.drop po).take 3 = cs → MT G cs t F → F.Nodup → pid ∉ F →
    Past G0 G → G0.next ≤ pid → (∀ x ∈ F, G0.next ≤ x) → G.within G.next →
    (∀ G', (∀ x, x < G.next → x ≠ pid → x ∉ F → G'.get x = G.get x) → G'.within G'.next → G.next ≤ G'.next → ((downS f names t).2 = 0 → Chg G pid pg po R F (downS f names t).1 G') → K (.int .i64 (downS f names t).2) G') → (ACalls Tryd.prog) 53 [.ptr pid pg po, slA k 1 (names.map strV), .func (.func fid) [] caps] G K
  | [], k, t, G, pid, pg, po, R, cs, F, K, hn, hb, hrow, hlen, htk, hm, hnd, hpF, hP, hp0, hF0, hw, h => by
    refine acalls_go mo t53 (fun hs hu => ?_)
    have hlp := G.lt hrow
    simp only [c53, go_sem, Nat.reduceLeDiff, Nat.reduceAdd, Nat.reduceSub, Nat.reduceMul, Nat.reduceLT, Int.reduceLT, Int.reduceLE, Int.reduceAdd, Int.reduceSub, Int.reduceMul, Int.reduceToNat, Int.reduceNeg, Int.reduceEq, Nat.reducePow, Int.reducePow, Nat.reduceEqDiff, decide_true, decide_false, reduceIte, reduceCtorEq, Int.reduceBEq, Int.reduceBNe, bne_self_eq_false, Int.cast_ofNat_Int, Bool.not_true, Bool.not_false, IntKind.bits]
    refine stp0 ?_
    refine hdo t (hp G [.row 54 0 [slA k 1 []]]) pid pg po R cs F _ hb ((hp_old hlp).trans hrow) hlen htk (mt_same hm (fun x hx => hp_old (mt_lt hm x hx))) hnd hpF (past_hp hP _) hp0 hF0 (within_hp2 hw (fun o ho => ?_)) (fun G' h1 h2 h3 h4 => ?_)
    · rw [List.mem_singleton] at ho
      subst ho
      exact fun c hc => by
        rw [List.mem_singleton] at hc
        subst hc
        exact names_u _ k []
    · rw [← hp_nil (H := G')]
      refine stp0 ?_
      rw [hp_nil]
      have hn' : G.next + 1 ≤ G'.next := h3
      exact aret_full (by omega) h2 (.int _ _) (h G' (fun x hx hxp hxF => (h1 x (by show x < G.next + 1; omega) hxp hxF).trans (hp_old hx)) h2 (by omega) (fun e => chg_hp (h4 e)))
  | nm :: ns, k, t, G, pid, pg, po, R, cs, F, K, hn, hb, hrow, hlen, htk, hm, hnd, hpF, hP, hp0, hF0, hw, h => by
    cases hm with
    | mk name vp vk ps css ks fps m1 m2 m3 m4 m5 =>
    refine acalls_go mo t53 (fun hs hu => ?_)
    have hlp := G.lt hrow
    have hR2 : R[po + 2]? = some vk := by
      have := congrArg (fun x => x[2]?) htk
      simp only [List.getElem?_take, List.getElem?_drop] at this
      simpa using this
    have hlc := css_len m3 m5
    have hnl : (nm :: ns).length = ns.length + 1 := List.length_cons
    have hcsn : css.length ≤ 1000000 := by
      cases hb
      omega
    simp only [c53, go_sem, Nat.reduceLeDiff, Nat.reduceAdd, Nat.reduceSub, Nat.reduceMul, Nat.reduceLT, Int.reduceLT, Int.reduceLE, Int.reduceAdd, Int.reduceSub, Int.reduceMul, Int.reduceToNat, Int.reduceNeg, Int.reduceEq, Nat.reducePow, Int.reducePow, Nat.reduceEqDiff, decide_true, decide_false, reduceIte, reduceCtorEq, Int.reduceBEq, Int.reduceBNe, bne_self_eq_false, Int.cast_ofNat_Int, Bool.not_true, Bool.not_false, IntKind.bits]
    have hrowG : (hp G [.row 54 0 [slA k 1 ((nm :: ns).map strV)]]).get pid = some (.row 25 pg R) := (hp_old hlp).trans hrow
    have hg4 : (hp G [.row 54 0 [slA k 1 ((nm :: ns).map strV)]]).get (G.next + 0) = some (.row 54 0 [slA k 1 ((nm :: ns).map strV)]) := hp_get _ _ 0
    have hl4 := (hp G [.row 54 0 [slA k 1 ((nm :: ns).map strV)]]).lt hg4
    have hlpG := (hp G [.row 54 0 [slA k 1 ((nm :: ns).map strV)]]).lt hrowG
    refine stp (And.intro hrow (And.intro hR2 hnl)) ?_
    have hstr : AV.str (B nm) :: List.map strV ns = (nm :: ns).map strV := rfl
    rw [hstr]
    have hmt : ∀ j, j < ks.length → MT (hp G [.row 54 0 [slA k 1 ((nm :: ns).map strV)]]) (css.getD j []) (ks.getD j tr0) (fps.getD j []) := fun j hj => mt_same (m5 j hj) (fun x hx => hp_old (mt_lt (m5 j hj) x hx))
    have hwG : (hp G [.row 54 0 [slA k 1 ((nm :: ns).map strV)]]).within (hp G [.row 54 0 [slA k 1 ((nm :: ns).map strV)]]).next := within_hp2 hw (fun o ho => by
      rw [List.mem_singleton] at ho
      subst ho
      exact fun c hc => by
        rw [List.mem_singleton] at hc
        subst hc
        exact names_u _ k _)
    have hPG : Past G0 (hp G [.row 54 0 [slA k 1 ((nm :: ns).map strV)]]) := past_hp hP _
    have hGn : G.next ≤ (hp G [.row 54 0 [slA k 1 ((nm :: ns).map strV)]]).next := Nat.le_add_right _ _
    refine nodeIx_a (p := fun j => decide ((ks.getD j tr0).name = nm)) (slat_hp m2 _) hlc hcsn (fun j hj K hk => ?_) (fun hno => ?_) (fun i hi hpi hbef => ?_)
    · obtain ⟨a, b, e, ⟨a1, a2, a3, _⟩, b1, b2, b3, _⟩ := mt_cs (hmt j (by omega))
      rw [e]
      exact dn1_a hg4 ⟨a1, a2, a3⟩ ⟨b1, b2, b3⟩ hk
    · have hr : repl nm (downS f ns) (Tr.mk name 0 ps 0 ks).kids = none := repl_none (fun j hj => of_decide_eq_false (hno j (by rw [m3]; exact hj)))
      have hd : downS f (nm :: ns) (.mk name 0 ps 0 ks) = (.mk name 0 ps 0 ks, 8) := by rw [downS, hr]
      rw [hd] at h
      have hfr : ∀ x, x < G.next → (hp G [.row 54 0 [slA k 1 ((nm :: ns).map strV)]]).get x = G.get x := fun x hx => hp_old hx
      generalize hp G [.row 54 0 [slA k 1 ((nm :: ns).map strV)]] = Gh at *
      rw [← hp_nil (H := Gh)]
      refine stp0 ?_
      rw [hp_nil]
      exact aret_full hGn hwG (.int _ _) (h Gh (fun x hx _ _ => hfr x hx) hwG hGn (fun e => absurd (show (8 : Int) = 0 from e) (by decide)))
    · rcases m2 with ⟨_, he⟩ | ⟨idk, genk, rfl, hidk, hgk⟩
      · have hl0 : css = [] := by simpa using he
        subst hl0
        exact absurd hi (Nat.not_lt_zero _)
      · rw [List.length_map] at *
        rw [agg_flat] at hgk
        have hik : i < ks.length := by omega
        have hlk := G.lt hgk
        have hr : repl nm (downS f ns) (Tr.mk name 0 ps 0 ks).kids = some (ks.set i (downS f ns (ks.getD i tr0)).1, (downS f ns (ks.getD i tr0)).2) := repl_at hik (of_decide_eq_true hpi) (fun j hj => of_decide_eq_false (hbef j hj))
        have hd : downS f (nm :: ns) (.mk name 0 ps 0 ks) = (.mk name 0 ps 0 (ks.set i (downS f ns (ks.getD i tr0)).1), (downS f ns (ks.getD i tr0)).2) := by rw [downS, hr]; rfl
        rw [hd] at h
        obtain ⟨k2, e2⟩ := slA_dropM k 1 ((nm :: ns).map strV) (i := 1) (by simp)
        have e3 : ((nm :: ns).map strV).drop 1 = ns.map strV := rfl
        rw [e3, ← hstr] at e2
        have e2 : asliceSl 1 (slA k 1 (AV.str (B nm) :: List.map strV ns)) (some (.int .i64 1)) none = some (slA k2 1 (ns.map strV)) := e2
        simp only [asliceSl, abound] at e2
        have hkG : (hp G [.row 54 0 [slA k 1 ((nm :: ns).map strV)]]).get idk = some (.row 25 genk css.flatten) := (hp_old hlk).trans hgk
        have hcs : R = R.take po ++ [.str (B name), vp, .wr idk genk 0 css.length 3] ++ R.drop (po + 3) := by
          rw [← htk]
          conv => lhs; rw [← List.take_append_drop po R, ← List.take_append_drop 3 (R.drop po), List.drop_drop]
          rw [List.append_assoc]
        have hrid : rowId (.wr idk genk 0 css.length 3) = [idk] := rfl
        rw [hrid] at hnd hpF hF0
        have hnd3 : fps.flatten.Nodup := (List.nodup_append.1 hnd).2.1
        have hikF : ∀ x ∈ fps.getD i [], x ≠ idk := fun x hx e => (List.nodup_append.1 hnd).2.2 idk (by simp) x (mem_fps hx) e.symm
        have hbk : TrB (ks.getD i tr0) := by
          cases hb with
          | mk _ _ _ _ _ b1 b2 b3 => exact b3 _ (tr_mem hik)
        refine stp (And.intro hrow (And.intro hR2 e2)) ?_
        rw [hstr]
        refine down_a hdo ns k2 (ks.getD i tr0) _ idk genk (i * 3) css.flatten (css.getD i []) (fps.getD i []) _ (by omega) hbk hkG (by rw [flat_len3 css hlc]; omega) (flat_get3 css i hlc hi) (hmt i hik) (nodup_getD hnd3 i) (fun q => hikF idk q rfl) hPG (hF0 idk (by simp)) (fun x hx => hF0 x (List.mem_append_right _ (mem_fps hx))) hwG (fun G' h1 h2 h3 h4 => ?_)
        have hfin := fun e => chg_hp (chg_up hrowG hcs (slat_hp m1 _) hkG m3 m4 hmt hnd hpF hik (h4 e))
        rw [← hp_nil (H := G')]
        refine stp0 ?_
        rw [hp_nil]
        exact aret_full (Nat.le_trans hGn h3) h2 (.int _ _) (h G' (fun x hx hxp hxF => (h1 x (Nat.lt_of_lt_of_le hx hGn) (fun e => hxF (by simp [e, rowId])) (fun q => hxF (List.mem_append_right _ (mem_fps q)))).trans (hp_old hx)) h2 (Nat.le_trans hGn h3) hfin)
def fitsE (t : Tr) : Int := if (tcount 9 t).2.2 ≤ 8 then (if tFits t = true then 0 else 7) else 13
theorem tcount_strip : ∀ (l : Nat) (t : Tr), tcount l t.strip = tcount l t
  | 0, t => by rw [tcount, tcount]
  | l + 1, t => by
    have h : ∀ (ks : List Tr) (a : Int × Int × Int), (ks.map Tr.strip).foldl (cstep (tcount l)) a = ks.foldl (cstep (tcount l)) a := by
      intro ks
      induction ks with
      | nil => exact fun a => rfl
      | cons k ks ih =>
        intro a
        rw [List.map_cons, List.foldl_cons, List.foldl_cons, ih]
        unfold cstep
        rw [tcount_strip l k]
    rw [tcount, tcount, Tr.strip_kids, Tr.strip_props, h]
theorem strip_strip : ∀ (n : Nat) (t : Tr), SizeOf.sizeOf t ≤ n → t.strip.strip = t.strip
  | 0, t, hn => by
    exfalso
    cases t
    simp at hn
  | n + 1, .mk nm kp ps kk ks, hn => by
    rw [Tr.strip_is, Tr.strip_is, List.map_map]
    congr 1
    refine List.map_congr_left (fun k hk => ?_)
    have h6 : SizeOf.sizeOf k < SizeOf.sizeOf ks := List.sizeOf_lt_of_mem hk
    have h7 : SizeOf.sizeOf ks < SizeOf.sizeOf (Tr.mk nm kp ps kk ks) := by simp; omega
    exact strip_strip n k (by omega)
theorem fitsE_strip (t : Tr) : fitsE t.strip = fitsE t := by
  unfold fitsE tFits
  rw [tcount_strip]
theorem trok_of_strip : ∀ (n : Nat) (t : Tr), SizeOf.sizeOf t ≤ n → TrOk t.strip → TrOk t
  | 0, t, hn, h => by
    exfalso
    cases t
    simp at hn
  | n + 1, .mk nm kp ps kk ks, hn, h => by
    rw [Tr.strip_is] at h
    cases h with
    | mk _ _ _ _ _ h1 h2 h3 h4 h5 =>
      refine .mk nm kp ps kk ks h1 h2 h3 (by simpa using h4) (fun k hk => trok_of_strip n k ?_ (h5 _ (List.mem_map_of_mem hk)))
      have h6 : SizeOf.sizeOf k < SizeOf.sizeOf ks := List.sizeOf_lt_of_mem hk
      have h7 : SizeOf.sizeOf ks < SizeOf.sizeOf (Tr.mk nm kp ps kk ks) := by simp; omega
      omega
section
variable {H : AHeap} {K : AV → AHeap → Prop}
theorem fits_a {t : Tr} (ho : TrOk t) (h : K (.tup [(if fitsE t = 0 then t else tr0).V, .int .i64 (fitsE t)]) H) : (ACalls Tryd.prog) 46 [t.V] H K := by
  refine acalls_go mo t46 (fun hs hu => ?_)
  have hVi := Tr.V_is t
  have hVu := Tr.V_u H.next t
  unfold fitsE at h
  simp only [c46, Tr.V_is, go_sem, Nat.reduceLeDiff, Nat.reduceAdd, Nat.reduceSub, Nat.reduceMul, Nat.reduceLT, Int.reduceLT, Int.reduceLE, Int.reduceAdd, Int.reduceSub, Int.reduceMul, Int.reduceToNat, Int.reduceNeg, Int.reduceEq, Nat.reducePow, Int.reducePow, Nat.reduceEqDiff, decide_true, decide_false, reduceIte, reduceCtorEq, Int.reduceBEq, Int.reduceBNe, bne_self_eq_false, Int.cast_ofNat_Int, Bool.not_true, Bool.not_false, IntKind.bits]
  rw [← hVi]
  refine trCount_a ho ?_
  by_cases h1 : (tcount 9 t).2.2 ≤ 8
  · rw [if_pos h1] at h
    refine stp h1 ?_
    rw [← hVi]
    refine trFits_a ho ?_
    cases h2 : tFits t with
    | true =>
      rw [h2, if_pos rfl, if_pos rfl, hVi] at h
      rw [hVi] at hVu
      refine stp0 ?_
      refine aret_plain hs ?_ h
      simp only [u_tup, u_cons, u_nil, u_int, and_true]
      exact hVu
    | false =>
      rw [h2, if_neg Bool.false_ne_true, if_neg (by decide), tr0_V] at h
      refine stp0 ?_
      exact aret_plain hs (by simp only [u_top, u_bool, u_int, u_str, u_nilp, u_nils, u_nilf, u_nilm, u_nili, u_emp, u_byteV, u_ptr, u_wr, u_wc, u_agg, u_tup, u_rd, u_imm, u_func, u_nil, u_cons, u_app, uc_nil, uc_cons, uc_app, u_bytes, uc_bytes, u_ints, uc_ints, cells_bool, cells_int, cells_str, cells_agg, cells_ptr, cells_nils, cells_imm, cells_wr, cells_wc, cells_nilp, cells_nilf, cells_nilm, cells_rd, cells_emp, cells_byteV, cells_func, and_self, and_true, true_and, u_slA, uc_strs, cells_slA, strV_is]) h
  · rw [if_neg h1, if_neg (by decide), tr0_V] at h
    refine stp h1 ?_
    exact aret_plain hs (by simp only [u_top, u_bool, u_int, u_str, u_nilp, u_nils, u_nilf, u_nilm, u_nili, u_emp, u_byteV, u_ptr, u_wr, u_wc, u_agg, u_tup, u_rd, u_imm, u_func, u_nil, u_cons, u_app, uc_nil, uc_cons, uc_app, u_bytes, uc_bytes, u_ints, uc_ints, cells_bool, cells_int, cells_str, cells_agg, cells_ptr, cells_nils, cells_imm, cells_wr, cells_wc, cells_nilp, cells_nilf, cells_nilm, cells_rd, cells_emp, cells_byteV, cells_func, and_self, and_true, true_and, u_slA, uc_strs, cells_slA, strV_is]) h
def changedS (f : Tr → Tr × Int) (p : List UInt8) (t : Tr) : Tr × Int := match partsP p with
  | none => (tr0, 8)
  | some ns => if (downS f ns t).2 = 0 then (if fitsE (downS f ns t).1 = 0 then (downS f ns t).1 else tr0, fitsE (downS f ns t).1) else (tr0, (downS f ns t).2)
theorem changed_a {fid : Nat} {caps : List AV} {f : Tr → Tr × Int} {t : Tr} {p : List UInt8} (hdo : DoOk H fid caps f) (ho : TrOk t) (hb : TrB t) (hbs : TrB t.strip) (hp_ : p.length < 100000) (hcu : ∀ c ∈ caps, c.under H.next)
    (hok : ∀ ns, (downS f ns t.strip).2 = 0 → TrOk (downS f ns t.strip).1) (hns : ∀ ns, partsP p = some ns → ns.length ≤ 100000) (h : ∀ t' : Tr, t'.strip = (changedS f p t.strip).1.strip → K (.tup [t'.V, .int .i64 (changedS f p t.strip).2]) H) :
    (ACalls Tryd.prog) 30 [t.V, .str (B p), .func (.func fid) [] caps] H K := by
  refine acalls_go mo t30 (fun hs hu => ?_)
  have hVi := Tr.V_is t
  unfold changedS at h
  simp only [c30, Tr.V_is, go_sem, Nat.reduceLeDiff, Nat.reduceAdd, Nat.reduceSub, Nat.reduceMul, Nat.reduceLT, Int.reduceLT, Int.reduceLE, Int.reduceAdd, Int.reduceSub, Int.reduceMul, Int.reduceToNat, Int.reduceNeg, Int.reduceEq, Nat.reducePow, Int.reducePow, Nat.reduceEqDiff, decide_true, decide_false, reduceIte, reduceCtorEq, Int.reduceBEq, Int.reduceBNe, bne_self_eq_false, Int.cast_ofNat_Int, Bool.not_true, Bool.not_false, IntKind.bits]
  refine Parts_a (by omega) (fun k => ?_)
  cases hpp : partsP p with
  | none =>
    rw [hpp] at h
    have hx := h tr0 rfl
    rw [tr0_V] at hx
    rw [partsV_n]
    refine stp0 ?_
    exact aret_plain hs (by simp only [u_top, u_bool, u_int, u_str, u_nilp, u_nils, u_nilf, u_nilm, u_nili, u_emp, u_byteV, u_ptr, u_wr, u_wc, u_agg, u_tup, u_rd, u_imm, u_func, u_nil, u_cons, u_app, uc_nil, uc_cons, uc_app, u_bytes, uc_bytes, u_ints, uc_ints, cells_bool, cells_int, cells_str, cells_agg, cells_ptr, cells_nils, cells_imm, cells_wr, cells_wc, cells_nilp, cells_nilf, cells_nilm, cells_rd, cells_emp, cells_byteV, cells_func, and_self, and_true, true_and, u_slA, uc_strs, cells_slA, strV_is]) hx
  | some ns =>
    rw [hpp] at h
    rw [partsV_s]
    refine stp0 ?_
    rw [← hVi]
    refine Copy_a _ t (Nat.le_refl _) hb _ _ (fun cs G F hm hnd hge hP hw => ?_)
    obtain ⟨a, b, rfl, ⟨a1, a2, a3, a4⟩, b1, b2, b3, b4⟩ := mt_cs hm
    have hHn : H.next + 2 ≤ G.next := hP.next
    have hres : G.get (H.next + 1) = some (.row 25 0 [.str (B []), .nils, .nils]) := (hP.get _ (by show H.next + 1 < H.next + 2; omega)).trans (hp_get _ _ 1)
    have hPG : Past H G := past_trans (past_hp past_refl _) hP
    have hge2 : ∀ x ∈ F, H.next + 2 ≤ x := hge
    rw [← hp_nil (H := G)]
    refine stp (And.intro a1 (And.intro a2 (And.intro a3 (And.intro b1 (And.intro b2 b3))))) ?_
    refine down_a hdo ns k t.strip (hp G [.row 25 0 [.str (B t.strip.name), a, b]]) (G.next + 0) 0 0 _ _ F _ (hns ns hpp) hbs (hp_get _ _ 0) (Nat.le_refl _) rfl (mt_same hm (fun x hx => hp_old (mt_lt hm x hx))) hnd (fun q => by have := mt_lt hm _ q; omega) (past_hp hPG _) (by omega) (fun x hx => by have := hge2 x hx; omega) (within_hp2 hw (fun o ho => ?_)) (fun G' h1 h2 h3 h4 => ?_)
    · rw [List.mem_singleton] at ho
      subst ho
      intro c hc
      simp only [List.mem_cons, List.mem_nil_iff, or_false] at hc
      rcases hc with rfl | rfl | rfl
      · exact .str _
      · exact up_under (Nat.le_add_right _ _) a4
      · exact up_under (Nat.le_add_right _ _) b4
    have hn' : G.next + 1 ≤ G'.next := h3
    have hold : ∀ x, x < H.next + 2 → G'.get x = G.get x := fun x hx => (h1 x (by show x < G.next + 1; omega) (by omega) (fun q => by have := hge2 x q; omega)).trans (hp_old (by omega))
    have hres' := (hold (H.next + 1) (by omega)).trans hres
    have hlr := G'.lt hres'
    have hPG' : Past H G' := ⟨by omega, fun x hx => (hold x (by omega)).trans (hPG.get x hx)⟩
    by_cases he : (downS f ns t.strip).2 = 0
    · obtain ⟨_, _, _, cs', F', q1, q2, q3, q4, q5⟩ := h4 he
      have hok' := hok ns he
      simp only [he, if_pos] at h
      rw [he]
      generalize (downS f ns t.strip).1 = td at *
      obtain ⟨G2, t2, hSh, hst, hn2, ho2⟩ := mt_freeze q2 q3
      obtain ⟨a', b', rfl, _⟩ := mt_cs q2
      have hq1 : G'.get (G.next + 0) = some (.row 25 0 [.str (B td.name), a', b']) := q1
      have hlq := G'.lt hq1
      rw [← hp_nil (H := G')]
      refine stp hq1 ?_
      rw [hp_nil]
      refine acalls_shut (pre := []) hSh ?_
      have hot : TrOk t2 := trok_of_strip _ t2 (Nat.le_refl _) (by rw [hst]; exact hok')
      refine fits_a hot ?_
      have hff : fitsE td = fitsE t2 := by rw [← hst, fitsE_strip]
      have hx := h (if fitsE t2 = 0 then t2 else tr0) (by
        rw [hff]
        by_cases hz : fitsE t2 = 0
        · rw [if_pos hz]
          rw [if_pos hz, ← hst, strip_strip _ t2 (Nat.le_refl _)]
        · rw [if_neg hz]
          rw [if_neg hz])
      simp only [if_true, hff] at hx
      generalize (if fitsE t2 = 0 then t2 else tr0) = tt at *
      have hVt := Tr.V_is tt
      have hVu := Tr.V_u H.next tt
      have hres2 : G2.get (H.next + 1) = some (.row 25 0 [.str (B []), .nils, .nils]) := (ho2 _ (fun q => by
        rcases q5 _ q with g | g
        · have := hge2 _ g
          omega
        · have : G.next + 1 ≤ H.next + 1 := g
          omega)).trans hres'
      have hlr2 := G2.lt hres2
      have hPG2 : Past H G2 := ⟨by omega, fun x hx => (ho2 x (fun q => by
        rcases q5 _ q with g | g
        · have := hge2 _ g
          omega
        · have : G.next + 1 ≤ x := g
          omega)).trans (hPG'.get x hx)⟩
      rw [hVt] at hx hVu
      rw [← hp_nil (H := G2)]
      refine stp (And.intro hVt hres2) ?_
      refine aret_past (past_hp (past_set hPG2 (by omega) _) []) hs ?_ hx
      simp only [u_tup, u_cons, u_nil, u_int, and_true]
      exact hVu
    · simp only [he, if_false] at h
      have hx := h tr0 rfl
      rw [tr0_V] at hx
      rw [← hp_nil (H := G')]
      refine stp (And.intro he hres') ?_
      exact aret_past (past_hp (past_set hPG' (by omega) _) []) hs (by simp only [u_top, u_bool, u_int, u_str, u_nilp, u_nils, u_nilf, u_nilm, u_nili, u_emp, u_byteV, u_ptr, u_wr, u_wc, u_agg, u_tup, u_rd, u_imm, u_func, u_nil, u_cons, u_app, uc_nil, uc_cons, uc_app, u_bytes, uc_bytes, u_ints, uc_ints, cells_bool, cells_int, cells_str, cells_agg, cells_ptr, cells_nils, cells_imm, cells_wr, cells_wc, cells_nilp, cells_nilf, cells_nilm, cells_rd, cells_emp, cells_byteV, cells_func, and_self, and_true, true_and, u_slA, uc_strs, cells_slA, strV_is]) hx
end
end Go.Proofs.YtdknpnmdjjmapaaDoor.AL
