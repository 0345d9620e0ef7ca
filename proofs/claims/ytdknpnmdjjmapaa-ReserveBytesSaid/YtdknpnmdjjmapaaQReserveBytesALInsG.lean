/- What holds of slices of one's own, whatever they hold. -/
import Derived.Test.YtdknpnmdjjmapaaQReserveBytesALIns
set_option linter.unusedSimpArgs false
set_option linter.unusedVariables false
set_option maxRecDepth 100000
set_option maxHeartbeats 16000000
namespace Go.Proofs.Ytdknpnmdjjmapaa.AL
open Go Go.Proofs
attribute [local go_sem] go_seq go_skip go_region go_regionN go_fregion rgF_some go_cond go_block go_exit go_ret nxt_nil nxt_code nxt_blk nxt_cut leave_nil leave_code leave_cut leave_blk rtn_nil rtn_code rtn_blk rtn_cut cnd_t cnd_f rgn_nil rgY_some rgY_none rgH_some rgP_some retTo_is rgV_func grd_und grd_tt grd_ff grd_tf grd_ft rgn_q rgn_alloc rgn_box rgn_store rgn_lit rgn_litw litCells_nil litCells_cons rgn_app rgn_copy rgn_mk rgn_s2b rgn_call rgn_callv rgn_stop rgn_slice3 aslice3 rgn_slice3l aslice3l rgn_appz rgn_clear rgn_range rgn_next arange acap rgn_put rgn_mkmap rgn_lookup rgn_mapup alookup_nilm alookup_map amapup_map afound_ok afound_no rgn_c rgn_cv qclV_func aloadr rgn_guard post_ret post_normal retY_some ares aresL ares1 AX.ev aput List.getD_cons_zero List.getD_cons_succ List.set_cons_zero List.set_cons_succ List.map_cons List.map_nil aq abin aint astr abeq aconv asame aextract alenS alenL_nils alenL_emp alenL_imm alenL_wr alenL_wc aun apart aload afieldAddr afield aidxSl_wr aidxSl_wc aidxSl_imm aidxPt aidxStr aidxArr abound asliceStr asliceSl asliceArr abest anonil afill astore acells_nils acells_emp acells_imm acells_wr acells_wc acells_str acopy litAll amk as2b anil nilOf aseq aeqs aeqv fits fit1 hp_next hp_push hp_get hp_set List.length_cons List.length_nil List.getElem?_cons_zero List.getElem?_cons_succ List.cons_append List.nil_append List.append_nil List.take_succ_cons List.take_zero List.drop_succ_cons List.drop_zero List.all_cons List.all_nil Option.map_some Option.some.injEq Bool.and_true Bool.true_and Bool.false_eq_true if_true if_false ite_true ite_false Bool.and_self true_and and_true and_self Nat.zero_add Nat.le_refl Int.toNat_natCast beq_self_eq_true eq_self tops_zero tops_succ Int.natCast_nonneg List.take_nil List.drop_nil Option.map_none flat_bool one_bool cells_bool flat_int one_int cells_int flat_str one_str cells_str flat_nilp one_nilp cells_nilp flat_ptr one_ptr cells_ptr flat_nils one_nils cells_nils flat_imm one_imm cells_imm flat_wr one_wr cells_wr flat_wc one_wc cells_wc flat_func one_func cells_func flat_nilf one_nilf cells_nilf flat_map one_map cells_map flat_nilm one_nilm cells_nilm flat_iface one_iface cells_iface flat_nili one_nili cells_nili flat_rd one_rd cells_rd flat_emp one_emp cells_emp flat_byteV one_byteV cells_byteV flat_agg cells_agg one_agg B_size B_list B_ext B_toList B_app List.take_length Int.le_refl
attribute [-go_sem] acopy
section
variable {G : AHeap} {e : TypeId} {gd d off len sz m : Nat} {R ys : List AV} {x : AV}
theorem copy_wr (hd : G.get d = some (.row e gd R)) (hc : acells G sz x = some (m, ys)) (h1 : ys.all AV.one = true) (hle : off + len * sz ≤ R.length) :
    acopy sz (hp G []) (.wr d gd off len sz) x = some (.int .i64 (min m len : Nat), hp (G.set d (.row e gd (R.take off ++ ys.take (min m len * sz) ++ R.drop (off + min m len * sz)))) []) := by
  unfold acopy
  simp only [hp_nil, hc, h1, if_true, hd]
  rw [if_pos ⟨trivial, trivial, hle⟩]
theorem copy_wc {cap : Nat} (hd : G.get d = some (.row e gd R)) (hc : acells G sz x = some (m, ys)) (h1 : (ys.take (min m len * sz)).all AV.one = true) (hle : off + len * sz ≤ R.length) :
    acopy sz (hp G []) (.wc d gd off len cap sz) x = some (.int .i64 (min m len : Nat), hp (G.set d (.row e gd (R.take off ++ ys.take (min m len * sz) ++ R.drop (off + min m len * sz)))) []) := by
  unfold acopy
  simp only [hp_nil, hc, hd]
  rw [if_pos ⟨trivial, trivial, hle, h1⟩]
theorem cells_wc_at {cap : Nat} (hd : G.get d = some (.row e gd R)) (hle : off + len * sz ≤ R.length) : acells G sz (.wc d gd off len cap sz) = some (len, (R.drop off).take (len * sz)) := by
  simp only [acells, if_true, hd]
  rw [if_pos ⟨trivial, hle⟩]
theorem aret_wc {n k cap : Nat} {K : AV → AHeap → Prop} (hn : n ≤ G.next) (hw : G.within G.next) (hd : G.get d = some (.row e gd R)) (hk : K (.wr d gd 0 k sz) (G.set d (.row e gd (R.take (k * sz))))) : ARet n K (.wc d gd 0 k cap sz) G := by
  refine ⟨G.set d (.row e gd (R.take (k * sz))), .wr d gd 0 k sz, G.next, .trans _ _ _ _ _ _ (.cut _ _ _ _ _ _ _ hd) (.soft _ _ _ _ _ _ _), hn, .wr _ _ _ _ _ (G.lt hd), ?_, ?_⟩
  · refine within_set hw (fun c hc => ?_)
    exact hw d _ (G.lt hd) hd c (List.mem_of_mem_take hc)
  · rw [show (G.set d (.row e gd (R.take (k * sz)))).trunc G.next = G.set d (.row e gd (R.take (k * sz))) from trunc_self _]
    exact hk
end
theorem flat_take {sz : Nat} : ∀ (xs : List AV) (i : Nat), (∀ x ∈ xs, x.cells.length = sz) → i ≤ xs.length → (xs.flatMap AV.cells).take (i * sz) = (xs.take i).flatMap AV.cells
  | [], i, _, h => by
    have : i = 0 := by simpa using h
    subst this
    simp
  | x :: xs, 0, _, _ => by simp
  | x :: xs, i + 1, hx, h => by
    have h1 := hx x List.mem_cons_self
    rw [List.flatMap_cons, List.take_succ_cons, List.flatMap_cons, List.take_append, List.take_of_length_le (by rw [h1, Nat.succ_mul]; omega), h1, show (i + 1) * sz - sz = i * sz by rw [Nat.succ_mul]; omega, flat_take xs i (fun y hy => hx y (List.mem_cons_of_mem _ hy)) (by simpa using h)]
theorem flat_drop {sz : Nat} : ∀ (xs : List AV) (i : Nat), (∀ x ∈ xs, x.cells.length = sz) → i ≤ xs.length → (xs.flatMap AV.cells).drop (i * sz) = (xs.drop i).flatMap AV.cells
  | [], i, _, h => by
    have : i = 0 := by simpa using h
    subst this
    simp
  | x :: xs, 0, _, _ => by simp
  | x :: xs, i + 1, hx, h => by
    have h1 := hx x List.mem_cons_self
    rw [List.flatMap_cons, List.drop_succ_cons, List.drop_append, List.drop_of_length_le (by rw [h1, Nat.succ_mul]; omega), List.nil_append, h1, show (i + 1) * sz - sz = i * sz by rw [Nat.succ_mul]; omega, flat_drop xs i (fun y hy => hx y (List.mem_cons_of_mem _ hy)) (by simpa using h)]
theorem slat_low {n0 n1 : Nat} {G : AHeap} {e sz : Nat} {v : AV} {xs : List AV} (h : SlAt n1 G e sz v xs) (hn : n0 ≤ n1) : SlAt n0 G e sz v xs := by
  rcases h with h | ⟨id, gen, h1, h2, h3⟩
  · exact .inl h
  · exact .inr ⟨id, gen, h1, Nat.le_trans hn h2, h3⟩
theorem slat_nid {n0 : Nat} {G : AHeap} {e sz : Nat} {v : AV} {xs : List AV} (h : SlAt n0 G e sz v xs) {j : Nat} (hj : j < n0) : ∀ gen off len sz, v ≠ .wr j gen off len sz := by
  intro gen off len sz' hv
  rcases h with ⟨rfl, _⟩ | ⟨id, gen', rfl, hid, _⟩
  · cases hv
  · cases hv
    omega
theorem past_reset {H G : AHeap} {id gen : Nat} {e : TypeId} {R R' : List AV} (h : Past (H.set id (.row e gen R)) G) (hid : id < H.next) : Past (H.set id (.row e gen R')) (G.set id (.row e gen R')) := by
  have hn : H.next ≤ G.next := h.next
  refine ⟨hn, fun i hi => ?_⟩
  have hi : i < H.next := hi
  by_cases q : i = id
  · rw [q, set_got (by omega), set_got hid]
  · rw [set_other q, set_other q, h.get i hi, set_other q]
section
variable {H : AHeap} {K : AV → AHeap → Prop}
end
theorem acalls_within {P : Program} {f : Nat} {args : List AV} {H : AHeap} {K : AV → AHeap → Prop} (h : H.within H.next → ACalls P f args H K) : ACalls P f args H K :=
  fun g w vs hS hR => h hS.within g w vs hS hR
end Go.Proofs.Ytdknpnmdjjmapaa.AL

