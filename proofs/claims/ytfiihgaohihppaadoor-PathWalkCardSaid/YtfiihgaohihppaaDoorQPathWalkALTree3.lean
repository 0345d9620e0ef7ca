/- Trees told: their nodes with their paths. -/
import Derived.Test.YtfiihgaohihppaaDoorQPathWalkALTree2
import Derived.Test.YtfiihgaohihppaaDoorQPathWalkALGrew
set_option linter.unusedSimpArgs false
set_option linter.unusedVariables false
set_option maxRecDepth 100000
set_option maxHeartbeats 16000000
namespace Go.Proofs.YtfiihgaohihppaaDoor.AL
open Go Go.Proofs
attribute [local go_sem] go_seq go_skip go_region go_regionN go_fregion rgF_some go_cond go_block go_exit go_ret nxt_nil nxt_code nxt_blk nxt_cut leave_nil leave_code leave_cut leave_blk rtn_nil rtn_code rtn_blk rtn_cut cnd_t cnd_f rgn_nil rgY_some rgY_none rgH_some rgP_some retTo_is rgV_func grd_und grd_tt grd_ff grd_tf grd_ft rgn_q rgn_alloc rgn_box rgn_store rgn_lit rgn_litw litCells_nil litCells_cons rgn_app rgn_copy rgn_mk rgn_s2b rgn_call rgn_callv rgn_stop rgn_slice3 aslice3 rgn_put rgn_mkmap rgn_lookup rgn_mapup alookup_nilm alookup_map amapup_map afound_ok afound_no rgn_c rgn_cv qclV_func aloadr rgn_guard post_ret post_normal retY_some ares aresL ares1 AX.ev aput List.getD_cons_zero List.getD_cons_succ List.set_cons_zero List.set_cons_succ List.map_cons List.map_nil aq abin aint astr abeq aconv asame aextract alenS alenL_nils alenL_emp alenL_imm alenL_wr aun apart aload afieldAddr afield aidxSl_wr aidxSl_imm aidxPt aidxStr aidxArr abound asliceStr asliceSl asliceArr abest anonil afill astore acells_nils acells_emp acells_imm acells_wr acells_str acopy litAll amk as2b anil nilOf aseq aeqs aeqv fits fit1 hp_next hp_push hp_get hp_set List.length_cons List.length_nil List.getElem?_cons_zero List.getElem?_cons_succ List.cons_append List.nil_append List.append_nil List.take_succ_cons List.take_zero List.drop_succ_cons List.drop_zero List.all_cons List.all_nil Option.map_some Option.some.injEq Bool.and_true Bool.true_and Bool.false_eq_true if_true if_false ite_true ite_false Bool.and_self true_and and_true and_self Nat.zero_add Nat.le_refl Int.toNat_natCast beq_self_eq_true eq_self tops_zero tops_succ Int.natCast_nonneg List.take_nil List.drop_nil Option.map_none flat_bool one_bool cells_bool flat_int one_int cells_int flat_str one_str cells_str flat_nilp one_nilp cells_nilp flat_ptr one_ptr cells_ptr flat_nils one_nils cells_nils flat_imm one_imm cells_imm flat_wr one_wr cells_wr flat_func one_func cells_func flat_nilf one_nilf cells_nilf flat_map one_map cells_map flat_nilm one_nilm cells_nilm flat_iface one_iface cells_iface flat_nili one_nili cells_nili flat_rd one_rd cells_rd flat_emp one_emp cells_emp flat_byteV one_byteV cells_byteV flat_agg cells_agg one_agg B_size B_list B_ext B_toList B_app List.take_length Int.le_refl
def trimS (p : List UInt8) : List UInt8 := if 1 ≤ p.length ∧ p.drop (p.length - 1) = [47] then p.take (p.length - 1) else p
def joinP (p n : List UInt8) : List UInt8 := trimS p ++ [47] ++ n
theorem trimS_le (p : List UInt8) : (trimS p).length ≤ p.length := by
  unfold trimS
  split
  · rw [List.length_take]; omega
  · exact Nat.le_refl _
theorem trimmed (p : List UInt8) (h : 1 ≤ p.length ∧ p.drop (p.length - 1) = [47]) : trimS p ++ [47] = p := by
  unfold trimS
  rw [if_pos h]
  have := List.take_append_drop (p.length - 1) p
  rw [h.2] at this
  exact this
section
variable {H : AHeap} {K : AV → AHeap → Prop}
end
def twalk : Nat → List UInt8 → Tr → List (List UInt8 × Tr)
  | 0, _, _ => []
  | l + 1, p, t => (p, t) :: t.kids.flatMap (fun k => twalk l (joinP p k.name) k)
def spV (s : List UInt8 × Tr) : AV := .agg (.str (B s.1) :: s.2.cells)
theorem spV_cells (s : List UInt8 × Tr) : (spV s).cells = [.str (B s.1), .str (B s.2.name), slA s.2.kp 2 (s.2.props.map propV), slA s.2.kk 3 (s.2.kids.map Tr.V)] := by
  show AV.str (B s.1) :: s.2.cells = _
  rw [Tr.cells_is]
theorem sp_len (xs : List (List UInt8 × Tr)) : ∀ x ∈ xs.map spV, x.cells.length = 4 := fun x hx => by
  obtain ⟨s, _, rfl⟩ := List.mem_map.1 hx
  rw [spV_cells]
  rfl
theorem sp_u (n : Nat) (xs : List (List UInt8 × Tr)) : AllC n (xs.map spV) := uc_map n xs (fun s => by
  rw [spV_cells]
  simp only [u_cons, u_nil, u_str, u_slA, and_true, true_and]
  exact ⟨props_u n _, kids_u n _⟩)
theorem sp_one (s : List UInt8 × Tr) : (([s].map spV).flatMap AV.cells).all AV.one = true := by
  rw [List.map_cons, List.map_nil, List.flatMap_cons, List.flatMap_nil, List.append_nil, spV_cells]
  simp only [List.all_cons, List.all_nil, one_str, one_slA, Bool.and_self]
theorem szLoop_sum (f : Tr → Nat) : ∀ (ks : List Tr) (a : Nat), szLoop f a ks ≤ 999 → szLoop f a ks = a + (ks.map f).sum
  | [], a, _ => by rw [szLoop]; simp
  | k :: ks, a, h => by
    rw [szLoop] at h ⊢
    split at h
    · rw [if_pos (by assumption), szLoop_sum f ks _ h, List.map_cons, List.sum_cons]
      omega
    · rename_i h2
      omega
theorem sum_le {ks : List Tr} {f : Tr → Nat} {k : Tr} (h : k ∈ ks) : f k ≤ (ks.map f).sum := by
  induction ks with
  | nil => cases h
  | cons x xs ih =>
    rw [List.map_cons, List.sum_cons]
    rcases List.mem_cons.1 h with rfl | h
    · omega
    · have := ih h
      omega
theorem flat_len_le {β : Type} (f : Tr → List β) (g : Tr → Nat) : ∀ (ks : List Tr), (∀ k ∈ ks, (f k).length ≤ g k) → (ks.flatMap f).length ≤ (ks.map g).sum
  | [], _ => by simp
  | k :: ks, h => by
    have := flat_len_le f g ks (fun x hx => h x (by simp [hx]))
    have := h k (by simp)
    rw [List.flatMap_cons, List.length_append, List.map_cons, List.sum_cons]
    omega
theorem twalk_len : ∀ (l m : Nat) (p : List UInt8) (t : Tr), l ≤ m → tsize m t ≤ 400 → (twalk l p t).length ≤ tsize m t
  | 0, m, p, t, _, _ => by rw [twalk]; simp
  | l + 1, 0, p, t, h, _ => by omega
  | l + 1, m + 1, p, t, h, hs => by
    rw [tsize] at hs ⊢
    have e := szLoop_sum (tsize m) t.kids (1 + t.props.length) (by omega)
    have := flat_len_le (fun k => twalk l (joinP p k.name) k) (tsize m) t.kids (fun k hk => twalk_len l m _ k (by omega) (by have := sum_le (f := tsize m) hk; omega))
    rw [twalk, List.length_cons]
    omega
end Go.Proofs.YtfiihgaohihppaaDoor.AL

