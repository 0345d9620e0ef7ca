/- Pairs told: one put among the others, by the document; a copy. -/
import Derived.Test.YtfilheaaacffmaaQKvTextsALKv5
set_option linter.unusedSimpArgs false
set_option linter.unusedVariables false
set_option maxRecDepth 100000
set_option maxHeartbeats 16000000
namespace Go.Proofs.Ytfilheaaacffmaa.AL
open Go Go.Proofs
attribute [local go_sem] go_seq go_skip go_region go_regionN go_fregion rgF_some go_cond go_block go_exit go_ret nxt_nil nxt_code nxt_blk nxt_cut leave_nil leave_code leave_cut leave_blk rtn_nil rtn_code rtn_blk rtn_cut cnd_t cnd_f rgn_nil rgY_some rgY_none rgH_some rgP_some retTo_is rgV_func grd_und grd_tt grd_ff grd_tf grd_ft rgn_q rgn_alloc rgn_box rgn_store rgn_lit rgn_litw litCells_nil litCells_cons rgn_app rgn_copy rgn_mk rgn_s2b rgn_call rgn_callv rgn_stop rgn_slice3 aslice3 rgn_slice3l aslice3l rgn_appz rgn_clear rgn_range rgn_next arange acap rgn_put rgn_mkmap rgn_lookup rgn_mapup alookup_nilm alookup_map amapup_map afound_ok afound_no rgn_c rgn_cv qclV_func aloadr rgn_guard post_ret post_normal retY_some ares aresL ares1 AX.ev aput List.getD_cons_zero List.getD_cons_succ List.set_cons_zero List.set_cons_succ List.map_cons List.map_nil aq abin aint astr abeq aconv asame aextract alenS alenL_nils alenL_emp alenL_imm alenL_wr alenL_wc aun apart aload afieldAddr afield aidxSl_wr aidxSl_wc aidxSl_imm aidxPt aidxStr aidxArr abound asliceStr asliceSl asliceArr abest anonil afill astore acells_nils acells_emp acells_imm acells_wr acells_wc acells_str acopy litAll amk as2b anil nilOf aseq aeqs aeqv fits fit1 hp_next hp_push hp_get hp_set List.length_cons List.length_nil List.getElem?_cons_zero List.getElem?_cons_succ List.cons_append List.nil_append List.append_nil List.take_succ_cons List.take_zero List.drop_succ_cons List.drop_zero List.all_cons List.all_nil Option.map_some Option.some.injEq Bool.and_true Bool.true_and Bool.false_eq_true if_true if_false ite_true ite_false Bool.and_self true_and and_true and_self Nat.zero_add Nat.le_refl Int.toNat_natCast beq_self_eq_true eq_self tops_zero tops_succ Int.natCast_nonneg List.take_nil List.drop_nil Option.map_none flat_bool one_bool cells_bool flat_int one_int cells_int flat_str one_str cells_str flat_nilp one_nilp cells_nilp flat_ptr one_ptr cells_ptr flat_nils one_nils cells_nils flat_imm one_imm cells_imm flat_wr one_wr cells_wr flat_wc one_wc cells_wc flat_func one_func cells_func flat_nilf one_nilf cells_nilf flat_map one_map cells_map flat_nilm one_nilm cells_nilm flat_iface one_iface cells_iface flat_nili one_nili cells_nili flat_rd one_rd cells_rd flat_emp one_emp cells_emp flat_byteV one_byteV cells_byteV flat_agg cells_agg one_agg B_size B_list B_ext B_toList B_app List.take_length Int.le_refl
def notK (k : List UInt8) (q : List UInt8 × List UInt8) : Bool := !decide (q.1 = k)
def putP : List (List UInt8 × List UInt8) → (List UInt8 × List UInt8) → List (List UInt8 × List UInt8)
  | [], p => [p]
  | q :: l, p => if less q.1 p.1 = true then q :: putP l p else p :: (q :: l).filter (notK p.1)
theorem slat_low {n0 n1 : Nat} {G : AHeap} {e sz : Nat} {v : AV} {xs : List AV} (h : SlAt n1 G e sz v xs) (hn : n0 ≤ n1) : SlAt n0 G e sz v xs := by
  rcases h with h | ⟨id, gen, h1, h2, h3⟩
  · exact .inl h
  · exact .inr ⟨id, gen, h1, Nat.le_trans hn h2, h3⟩
theorem slat_nid {n0 : Nat} {G : AHeap} {e sz : Nat} {v : AV} {xs : List AV} (h : SlAt n0 G e sz v xs) {j : Nat} (hj : j < n0) : ∀ gen off len sz, v ≠ .wr j gen off len sz := by
  intro gen off len sz' hv
  rcases h with ⟨rfl, _⟩ | ⟨id, gen', rfl, hid, _⟩
  · cases hv
  · cases hv
    omega
theorem prs_u (n : Nat) (l : List (List UInt8 × List UInt8)) : AllC n (l.map prV) := uc_map n l (fun p => by rw [prV_cells]; simp only [u_top, u_bool, u_int, u_str, u_nilp, u_nils, u_nilf, u_nilm, u_nili, u_emp, u_byteV, u_ptr, u_wr, u_wc, u_agg, u_tup, u_rd, u_imm, u_func, u_nil, u_cons, u_app, uc_nil, uc_cons, uc_app, u_bytes, uc_bytes, u_ints, uc_ints, cells_bool, cells_int, cells_str, cells_agg, cells_ptr, cells_nils, cells_imm, cells_wr, cells_wc, cells_nilp, cells_nilf, cells_nilm, cells_rd, cells_emp, cells_byteV, cells_func, and_self, and_true, true_and, u_slA, uc_strs, cells_slA, strV_is])
theorem prs_one (l : List (List UInt8 × List UInt8)) : ((l.map prV).flatMap AV.cells).all AV.one = true := by
  rw [List.all_eq_true]
  intro c hc
  obtain ⟨x, hx, hcx⟩ := List.mem_flatMap.1 hc
  obtain ⟨p, _, rfl⟩ := List.mem_map.1 hx
  rw [prV_cells] at hcx
  simp only [List.mem_cons, List.mem_nil_iff, or_false] at hcx
  rcases hcx with rfl | rfl <;> rfl
section
variable {H : AHeap} {K : AV → AHeap → Prop}
end
end Go.Proofs.Ytfilheaaacffmaa.AL

