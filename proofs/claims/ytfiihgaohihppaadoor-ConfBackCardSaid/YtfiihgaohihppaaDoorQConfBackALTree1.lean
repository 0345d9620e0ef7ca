/- Trees told: counting them. -/
import Derived.Test.YtfiihgaohihppaaDoorQConfBackALDTree
import Derived.Test.YtfiihgaohihppaaDoorQConfBackALA4
set_option linter.unusedSimpArgs false
set_option linter.unusedVariables false
set_option maxRecDepth 100000
set_option maxHeartbeats 16000000
namespace Go.Proofs.YtfiihgaohihppaaDoor.AL
open Go Go.Proofs
attribute [local go_sem] go_seq go_skip go_region go_regionN go_fregion rgF_some go_cond go_block go_exit go_ret nxt_nil nxt_code nxt_blk nxt_cut leave_nil leave_code leave_cut leave_blk rtn_nil rtn_code rtn_blk rtn_cut cnd_t cnd_f rgn_nil rgY_some rgY_none rgH_some rgP_some retTo_is rgV_func grd_und grd_tt grd_ff grd_tf grd_ft rgn_q rgn_alloc rgn_box rgn_store rgn_lit rgn_litw litCells_nil litCells_cons rgn_app rgn_copy rgn_mk rgn_s2b rgn_call rgn_callv rgn_stop rgn_slice3 aslice3 rgn_slice3l aslice3l rgn_appz rgn_clear acap rgn_put rgn_mkmap rgn_lookup rgn_mapup alookup_nilm alookup_map amapup_map afound_ok afound_no rgn_c rgn_cv qclV_func aloadr rgn_guard post_ret post_normal retY_some ares aresL ares1 AX.ev aput List.getD_cons_zero List.getD_cons_succ List.set_cons_zero List.set_cons_succ List.map_cons List.map_nil aq abin aint astr abeq aconv asame aextract alenS alenL_nils alenL_emp alenL_imm alenL_wr alenL_wc aun apart aload afieldAddr afield aidxSl_wr aidxSl_wc aidxSl_imm aidxPt aidxStr aidxArr abound asliceStr asliceSl asliceArr abest anonil afill astore acells_nils acells_emp acells_imm acells_wr acells_wc acells_str acopy litAll amk as2b anil nilOf aseq aeqs aeqv fits fit1 hp_next hp_push hp_get hp_set List.length_cons List.length_nil List.getElem?_cons_zero List.getElem?_cons_succ List.cons_append List.nil_append List.append_nil List.take_succ_cons List.take_zero List.drop_succ_cons List.drop_zero List.all_cons List.all_nil Option.map_some Option.some.injEq Bool.and_true Bool.true_and Bool.false_eq_true if_true if_false ite_true ite_false Bool.and_self true_and and_true and_self Nat.zero_add Nat.le_refl Int.toNat_natCast beq_self_eq_true eq_self tops_zero tops_succ Int.natCast_nonneg List.take_nil List.drop_nil Option.map_none flat_bool one_bool cells_bool flat_int one_int cells_int flat_str one_str cells_str flat_nilp one_nilp cells_nilp flat_ptr one_ptr cells_ptr flat_nils one_nils cells_nils flat_imm one_imm cells_imm flat_wr one_wr cells_wr flat_wc one_wc cells_wc flat_func one_func cells_func flat_nilf one_nilf cells_nilf flat_map one_map cells_map flat_nilm one_nilm cells_nilm flat_iface one_iface cells_iface flat_nili one_nili cells_nili flat_rd one_rd cells_rd flat_emp one_emp cells_emp flat_byteV one_byteV cells_byteV flat_agg cells_agg one_agg B_size B_list B_ext B_toList B_app List.take_length Int.le_refl
/-- A tree; kp and kk: what its slices are where they have nothing (nil, or empty). -/
inductive Tr where
  | mk (name : List UInt8) (kp : Nat) (props : List (List UInt8 × List UInt8)) (kk : Nat) (kids : List Tr)
def Tr.name : Tr → List UInt8
  | .mk n _ _ _ _ => n
def Tr.kp : Tr → Nat
  | .mk _ k _ _ _ => k
def Tr.props : Tr → List (List UInt8 × List UInt8)
  | .mk _ _ p _ _ => p
def Tr.kk : Tr → Nat
  | .mk _ _ _ k _ => k
def Tr.kids : Tr → List Tr
  | .mk _ _ _ _ ks => ks
def propV (p : List UInt8 × List UInt8) : AV := .agg [.str (B p.1), .str (B p.2)]
theorem propV_cells (p : List UInt8 × List UInt8) : (propV p).cells = [.str (B p.1), .str (B p.2)] := rfl
mutual
def Tr.cells : Tr → List AV
  | .mk n kp ps kk ks => [.str (B n), slA kp 2 (ps.map propV), slA kk 3 (Tr.Vs ks)]
def Tr.Vs : List Tr → List AV
  | [] => []
  | t :: ts => .agg t.cells :: Tr.Vs ts
end
def Tr.V (t : Tr) : AV := .agg t.cells
theorem Tr.Vs_is : ∀ ks : List Tr, Tr.Vs ks = ks.map Tr.V
  | [] => by rw [Tr.Vs]; rfl
  | t :: ts => by rw [Tr.Vs, Tr.Vs_is ts]; rfl
theorem Tr.cells_is (t : Tr) : t.cells = [.str (B t.name), slA t.kp 2 (t.props.map propV), slA t.kk 3 (t.kids.map Tr.V)] := by
  cases t with
  | mk n kp ps kk ks => rw [Tr.cells, Tr.Vs_is]; rfl
theorem Tr.V_is (t : Tr) : t.V = .agg [.str (B t.name), slA t.kp 2 (t.props.map propV), slA t.kk 3 (t.kids.map Tr.V)] := by rw [Tr.V, Tr.cells_is]
theorem Tr.V_cells (t : Tr) : t.V.cells = [.str (B t.name), slA t.kp 2 (t.props.map propV), slA t.kk 3 (t.kids.map Tr.V)] := by rw [Tr.V_is]; rfl
theorem props_u (n : Nat) (ps : List (List UInt8 × List UInt8)) : AllC n (ps.map propV) := uc_map n ps (fun p => by rw [propV_cells]; simp only [u_top, u_bool, u_int, u_str, u_nilp, u_nils, u_nilf, u_nilm, u_nili, u_emp, u_byteV, u_ptr, u_wr, u_wc, u_agg, u_tup, u_rd, u_imm, u_func, u_nil, u_cons, u_app, uc_nil, uc_cons, uc_app, u_bytes, uc_bytes, u_ints, uc_ints, cells_bool, cells_int, cells_str, cells_agg, cells_ptr, cells_nils, cells_imm, cells_wr, cells_wc, cells_nilp, cells_nilf, cells_nilm, cells_rd, cells_emp, cells_byteV, cells_func, and_self, and_true, true_and, u_slA, uc_strs, cells_slA, strV_is])
mutual
theorem Tr.cu (n : Nat) : ∀ t : Tr, AllU n t.cells
  | .mk nm kp ps kk ks => by
    rw [Tr.cells]
    simp only [u_cons, u_nil, u_str, u_slA, and_true, true_and]
    exact ⟨props_u n ps, Tr.csu n ks⟩
theorem Tr.csu (n : Nat) : ∀ ks : List Tr, AllC n (Tr.Vs ks)
  | [] => by rw [Tr.Vs, uc_nil]; trivial
  | t :: ts => by
    rw [Tr.Vs, uc_cons]
    exact ⟨Tr.cu n t, Tr.csu n ts⟩
end
theorem kids_u (n : Nat) (t : Tr) : AllC n (t.kids.map Tr.V) := by
  have := Tr.cu n t
  rw [Tr.cells_is] at this
  simp only [u_cons, u_nil, u_str, u_slA, and_true, true_and] at this
  exact this.2
def tr0 : Tr := .mk [] 0 [] 0 []
theorem tr_at {ls : List Tr} {i : Nat} (h : i < ls.length) : (ls.map Tr.V)[i]? = some (Tr.V (ls.getD i tr0)) := by
  rw [List.getElem?_map, List.getD_eq_getElem?_getD, List.getElem?_eq_getElem h]
  rfl
theorem prop_at {ls : List (List UInt8 × List UInt8)} {i : Nat} (h : i < ls.length) : (ls.map propV)[i]? = some (propV (ls.getD i ([], []))) := by
  rw [List.getElem?_map, List.getD_eq_getElem?_getD, List.getElem?_eq_getElem h]
  rfl
/-- Sizes that can be. -/
inductive TrOk : Tr → Prop
  | mk (name : List UInt8) (kp : Nat) (props : List (List UInt8 × List UInt8)) (kk : Nat) (kids : List Tr) : name.length ≤ 9223372036854775807 → props.length ≤ 9223372036854775807 → (∀ p ∈ props, p.1.length ≤ 9223372036854775807 ∧ p.2.length ≤ 9223372036854775807) → kids.length ≤ 9223372036854775807 → (∀ k ∈ kids, TrOk k) → TrOk (.mk name kp props kk kids)
theorem TrOk.n {t : Tr} (h : TrOk t) : t.name.length ≤ 9223372036854775807 := by cases h; assumption
theorem TrOk.p {t : Tr} (h : TrOk t) : t.props.length ≤ 9223372036854775807 := by cases h; assumption
theorem TrOk.k {t : Tr} (h : TrOk t) : t.kids.length ≤ 9223372036854775807 := by cases h; assumption
theorem TrOk.ps {t : Tr} (h : TrOk t) : ∀ p ∈ t.props, p.1.length ≤ 9223372036854775807 ∧ p.2.length ≤ 9223372036854775807 := by cases h; assumption
theorem TrOk.ks {t : Tr} (h : TrOk t) : ∀ k ∈ t.kids, TrOk k := by cases h; assumption
theorem tr_mem {l : List Tr} {i : Nat} (h : i < l.length) : l.getD i tr0 ∈ l := by
  rw [List.getD_eq_getElem?_getD, List.getElem?_eq_getElem h]
  exact List.getElem_mem _
def trRow (t : Tr) : AObj := .row 34 0 [.str (B t.name), slA t.kp 2 (t.props.map propV), slA t.kk 3 (t.kids.map Tr.V)]
theorem trRow_is (t : Tr) : trRow t = .row 34 0 [.str (B t.name), slA t.kp 2 (t.props.map propV), slA t.kk 3 (t.kids.map Tr.V)] := rfl
/-! ### how big it is -/
end Go.Proofs.YtfiihgaohihppaaDoor.AL

