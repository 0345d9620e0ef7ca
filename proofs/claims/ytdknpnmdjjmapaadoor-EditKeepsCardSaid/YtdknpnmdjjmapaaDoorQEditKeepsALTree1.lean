/- Trees told: counting them. -/
import Derived.Test.YtdknpnmdjjmapaaDoorQEditKeepsALDSuf
import Derived.Test.YtdknpnmdjjmapaaDoorQEditKeepsALA4
import Derived.Test.YtdknpnmdjjmapaaDoorQEditKeepsALA3
import Derived.Test.YtdknpnmdjjmapaaDoorProg
import Derived.KernelRfl
set_option linter.unusedSimpArgs false
set_option linter.unusedVariables false
set_option maxRecDepth 100000
set_option maxHeartbeats 16000000
namespace Go.Proofs.YtdknpnmdjjmapaaDoor.AL
open Go Go.Proofs
attribute [local go_sem] go_seq go_skip go_region go_regionN go_fregion rgF_some go_cond go_block go_exit go_ret nxt_nil nxt_code nxt_blk nxt_cut leave_nil leave_code leave_cut leave_blk rtn_nil rtn_code rtn_blk rtn_cut cnd_t cnd_f rgn_nil rgY_some rgY_none rgH_some rgP_some retTo_is rgV_func grd_und grd_tt grd_ff grd_tf grd_ft rgn_q rgn_alloc rgn_box rgn_store rgn_lit rgn_litw litCells_nil litCells_cons rgn_app rgn_copy rgn_mk rgn_s2b rgn_call rgn_callv rgn_stop rgn_slice3 aslice3 rgn_slice3l aslice3l rgn_appz rgn_clear rgn_range rgn_next arange acap rgn_put rgn_mkmap rgn_lookup rgn_mapup alookup_nilm alookup_map amapup_map afound_ok afound_no rgn_c rgn_cv qclV_func aloadr rgn_guard post_ret post_normal retY_some ares aresL ares1 AX.ev aput List.getD_cons_zero List.getD_cons_succ List.set_cons_zero List.set_cons_succ List.map_cons List.map_nil aq abin aint astr abeq aconv asame aextract alenS alenL_nils alenL_emp alenL_imm alenL_wr alenL_wc aun apart aload afieldAddr afield aidxSl_wr aidxSl_wc aidxSl_imm aidxPt aidxStr aidxArr abound asliceStr asliceSl asliceArr abest anonil afill astore acells_nils acells_emp acells_imm acells_wr acells_wc acells_str acopy litAll amk as2b anil nilOf aseq aeqs aeqv fits fit1 hp_next hp_push hp_get hp_set List.length_cons List.length_nil List.getElem?_cons_zero List.getElem?_cons_succ List.cons_append List.nil_append List.append_nil List.take_succ_cons List.take_zero List.drop_succ_cons List.drop_zero List.all_cons List.all_nil Option.map_some Option.some.injEq Bool.and_true Bool.true_and Bool.false_eq_true if_true if_false ite_true ite_false Bool.and_self true_and and_true and_self Nat.zero_add Nat.le_refl Int.toNat_natCast beq_self_eq_true eq_self tops_zero tops_succ Int.natCast_nonneg List.take_nil List.drop_nil Option.map_none flat_bool one_bool cells_bool flat_int one_int cells_int flat_str one_str cells_str flat_nilp one_nilp cells_nilp flat_ptr one_ptr cells_ptr flat_nils one_nils cells_nils flat_imm one_imm cells_imm flat_wr one_wr cells_wr flat_wc one_wc cells_wc flat_func one_func cells_func flat_nilf one_nilf cells_nilf flat_map one_map cells_map flat_nilm one_nilm cells_nilm flat_iface one_iface cells_iface flat_nili one_nili cells_nili flat_rd one_rd cells_rd flat_emp one_emp cells_emp flat_byteV one_byteV cells_byteV flat_agg cells_agg one_agg B_size B_list B_ext B_toList B_app List.take_length Int.le_refl
/-- A tree; kp and kk: what its slices are where they have nothing (nil, or empty). -/
inductive Tr where
  | mk (name : List UInt8) (kp : Nat) (props : List (List UInt8 × List UInt8)) (kk : Nat) (kids : List Tr)
def Tr.name : Tr → List UInt8
  | .mk n _ _ _ _ => n
def Tr.kp : Tr → Nat
  | .mk _ k _ _ _ => k
def Tr.props : Tr → List (List UInt8 × List UInt8)
  | .mk _ _ p _ _ => p
def Tr.kk : Tr → Nat
  | .mk _ _ _ k _ => k
def Tr.kids : Tr → List Tr
  | .mk _ _ _ _ ks => ks
def propV (p : List UInt8 × List UInt8) : AV := .agg [.str (B p.1), .str (B p.2)]
theorem propV_cells (p : List UInt8 × List UInt8) : (propV p).cells = [.str (B p.1), .str (B p.2)] := rfl
mutual
def Tr.cells : Tr → List AV
  | .mk n kp ps kk ks => [.str (B n), slA kp 2 (ps.map propV), slA kk 3 (Tr.Vs ks)]
def Tr.Vs : List Tr → List AV
  | [] => []
  | t :: ts => .agg t.cells :: Tr.Vs ts
end
def Tr.V (t : Tr) : AV := .agg t.cells
theorem Tr.Vs_is : ∀ ks : List Tr, Tr.Vs ks = ks.map Tr.V
  | [] => by rw [Tr.Vs]; rfl
  | t :: ts => by rw [Tr.Vs, Tr.Vs_is ts]; rfl
theorem Tr.cells_is (t : Tr) : t.cells = [.str (B t.name), slA t.kp 2 (t.props.map propV), slA t.kk 3 (t.kids.map Tr.V)] := by
  cases t with
  | mk n kp ps kk ks => rw [Tr.cells, Tr.Vs_is]; rfl
theorem Tr.V_is (t : Tr) : t.V = .agg [.str (B t.name), slA t.kp 2 (t.props.map propV), slA t.kk 3 (t.kids.map Tr.V)] := by rw [Tr.V, Tr.cells_is]
theorem Tr.V_cells (t : Tr) : t.V.cells = [.str (B t.name), slA t.kp 2 (t.props.map propV), slA t.kk 3 (t.kids.map Tr.V)] := by rw [Tr.V_is]; rfl
theorem props_u (n : Nat) (ps : List (List UInt8 × List UInt8)) : AllC n (ps.map propV) := uc_map n ps (fun p => by rw [propV_cells]; simp only [u_top, u_bool, u_int, u_str, u_nilp, u_nils, u_nilf, u_nilm, u_nili, u_emp, u_byteV, u_ptr, u_wr, u_wc, u_agg, u_tup, u_rd, u_imm, u_func, u_nil, u_cons, u_app, uc_nil, uc_cons, uc_app, u_bytes, uc_bytes, u_ints, uc_ints, cells_bool, cells_int, cells_str, cells_agg, cells_ptr, cells_nils, cells_imm, cells_wr, cells_wc, cells_nilp, cells_nilf, cells_nilm, cells_rd, cells_emp, cells_byteV, cells_func, and_self, and_true, true_and, u_slA, uc_strs, cells_slA, strV_is])
mutual
theorem Tr.cu (n : Nat) : ∀ t : Tr, AllU n t.cells
  | .mk nm kp ps kk ks => by
    rw [Tr.cells]
    simp only [u_cons, u_nil, u_str, u_slA, and_true, true_and]
    exact ⟨props_u n ps, Tr.csu n ks⟩
theorem Tr.csu (n : Nat) : ∀ ks : List Tr, AllC n (Tr.Vs ks)
  | [] => by rw [Tr.Vs, uc_nil]; trivial
  | t :: ts => by
    rw [Tr.Vs, uc_cons]
    exact ⟨Tr.cu n t, Tr.csu n ts⟩
end
theorem Tr.V_u (n : Nat) (t : Tr) : t.V.under n := by rw [Tr.V, u_agg]; exact Tr.cu n t
theorem kids_u (n : Nat) (t : Tr) : AllC n (t.kids.map Tr.V) := by
  have := Tr.cu n t
  rw [Tr.cells_is] at this
  simp only [u_cons, u_nil, u_str, u_slA, and_true, true_and] at this
  exact this.2
def tr0 : Tr := .mk [] 0 [] 0 []
theorem tr_at {ls : List Tr} {i : Nat} (h : i < ls.length) : (ls.map Tr.V)[i]? = some (Tr.V (ls.getD i tr0)) := by
  rw [List.getElem?_map, List.getD_eq_getElem?_getD, List.getElem?_eq_getElem h]
  rfl
theorem prop_at {ls : List (List UInt8 × List UInt8)} {i : Nat} (h : i < ls.length) : (ls.map propV)[i]? = some (propV (ls.getD i ([], []))) := by
  rw [List.getElem?_map, List.getD_eq_getElem?_getD, List.getElem?_eq_getElem h]
  rfl
/-- Sizes that can be. -/
inductive TrOk : Tr → Prop
  | mk (name : List UInt8) (kp : Nat) (props : List (List UInt8 × List UInt8)) (kk : Nat) (kids : List Tr) : name.length ≤ 9223372036854775807 → props.length ≤ 9223372036854775807 → (∀ p ∈ props, p.1.length ≤ 9223372036854775807 ∧ p.2.length ≤ 9223372036854775807) → kids.length ≤ 9223372036854775807 → (∀ k ∈ kids, TrOk k) → TrOk (.mk name kp props kk kids)
theorem TrOk.n {t : Tr} (h : TrOk t) : t.name.length ≤ 9223372036854775807 := by cases h; assumption
theorem TrOk.p {t : Tr} (h : TrOk t) : t.props.length ≤ 9223372036854775807 := by cases h; assumption
theorem TrOk.k {t : Tr} (h : TrOk t) : t.kids.length ≤ 9223372036854775807 := by cases h; assumption
theorem TrOk.ps {t : Tr} (h : TrOk t) : ∀ p ∈ t.props, p.1.length ≤ 9223372036854775807 ∧ p.2.length ≤ 9223372036854775807 := by cases h; assumption
theorem TrOk.ks {t : Tr} (h : TrOk t) : ∀ k ∈ t.kids, TrOk k := by cases h; assumption
theorem tr_mem {l : List Tr} {i : Nat} (h : i < l.length) : l.getD i tr0 ∈ l := by
  rw [List.getD_eq_getElem?_getD, List.getElem?_eq_getElem h]
  exact List.getElem_mem _
def trRow (t : Tr) : AObj := .row 25 0 [.str (B t.name), slA t.kp 2 (t.props.map propV), slA t.kk 3 (t.kids.map Tr.V)]
theorem trRow_is (t : Tr) : trRow t = .row 25 0 [.str (B t.name), slA t.kp 2 (t.props.map propV), slA t.kk 3 (t.kids.map Tr.V)] := rfl
/-! ### how big it is -/
def wI (n : Int) : Int := IntKind.wrap .i64 n
def mxI (a b : Int) : Int := if a < b then b else a
def cstep (f : Tr → Int × Int × Int) (a : Int × Int × Int) (k : Tr) : Int × Int × Int := (wI (a.1 + (f k).1), wI (a.2.1 + (f k).2.1), mxI a.2.2 (f k).2.2)
def tcount : Nat → Tr → Int × Int × Int
  | 0, _ => (0, 0, 0)
  | l + 1, t => ((t.kids.foldl (cstep (tcount l)) (1, (t.props.length : Int), 0)).1, (t.kids.foldl (cstep (tcount l)) (1, (t.props.length : Int), 0)).2.1, wI ((t.kids.foldl (cstep (tcount l)) (1, (t.props.length : Int), 0)).2.2 + 1))
theorem foldl_step {α β : Type} (f : β → α → β) (b : β) (d : α) {l : List α} {i : Nat} (h : i < l.length) : (l.take (i + 1)).foldl f b = f ((l.take i).foldl f b) (l.getD i d) := by
  rw [List.take_add_one, List.getElem?_eq_getElem h, List.foldl_append, List.getD_eq_getElem?_getD, List.getElem?_eq_getElem h]
  rfl
theorem tcount_a : ∀ (l : Nat) (t : Tr) (H : AHeap) (K : AV → AHeap → Prop), l ≤ 100 → TrOk t → K (.tup [.int .i64 (tcount l t).1, .int .i64 (tcount l t).2.1, .int .i64 (tcount l t).2.2]) H → (ACalls Tryd.prog) 77 [t.V, .int .i64 (l : Int)] H K
  | 0, t, H, K, hl, ho, h => by
    refine acalls_go mo t77 (fun hs hu => ?_)
    rw [tcount] at h
    simp only [c77, Tr.V_is, Int.ofNat_zero, Int.natCast_zero, go_sem, Nat.reduceLeDiff, Nat.reduceAdd, Nat.reduceSub, Nat.reduceMul, Nat.reduceLT, Int.reduceLT, Int.reduceLE, Int.reduceAdd, Int.reduceSub, Int.reduceMul, Int.reduceToNat, Int.reduceNeg, Int.reduceEq, Nat.reducePow, Int.reducePow, Nat.reduceEqDiff, decide_true, decide_false, reduceIte, reduceCtorEq, Int.reduceBEq, Int.reduceBNe, bne_self_eq_false, Int.cast_ofNat_Int, Bool.not_true, Bool.not_false, IntKind.bits]
    exact aret_u hs (h)
  | l + 1, t, H, K, hl, ho, h => by
    refine acalls_go mo t77 (fun hs hu => ?_)
    have ih := tcount_a l
    rw [tcount] at h
    have hkl := ho.k
    simp only [c77, Tr.V_is, go_sem, Nat.reduceLeDiff, Nat.reduceAdd, Nat.reduceSub, Nat.reduceMul, Nat.reduceLT, Int.reduceLT, Int.reduceLE, Int.reduceAdd, Int.reduceSub, Int.reduceMul, Int.reduceToNat, Int.reduceNeg, Int.reduceEq, Nat.reducePow, Int.reducePow, Nat.reduceEqDiff, decide_true, decide_false, reduceIte, reduceCtorEq, Int.reduceBEq, Int.reduceBNe, bne_self_eq_false, Int.cast_ofNat_Int, Bool.not_true, Bool.not_false, IntKind.bits]
    refine stp0 ?_
    rw [← hp_nil (H := hp H _)]
    refine go_loopS mono (σ := AHeap × Nat) (fun z => [(7, .int .i64 ((t.kids.take z.2).foldl (cstep (tcount l)) (1, (t.props.length : Int), 0)).1), (8, .int .i64 ((t.kids.take z.2).foldl (cstep (tcount l)) (1, (t.props.length : Int), 0)).2.1), (9, .int .i64 ((t.kids.take z.2).foldl (cstep (tcount l)) (1, (t.props.length : Int), 0)).2.2), (23, .int .i64 (z.2 : Int))]) (fun z => hp z.1 []) (fun z => Past H z.1 ∧ z.2 ≤ t.kids.length) (fun z => t.kids.length - z.2) (hp H [trRow t], 0) ?_ rfl ⟨past_hp past_refl _, Nat.zero_le _⟩ (fun z hz J hJ => ?_)
    · rw [List.take_zero, List.foldl_nil]
      exact fgt
    obtain ⟨G, i⟩ := z
    obtain ⟨hG, hil⟩ := hz
    simp only at hG hil
    simp only [blurR_nil, blurR_some, blurR_none, blurC_region, blurC_regionN, blurC_fregion, blurT_nil, blurT_cons, blurC_seq, blurC_both, blurC_cond, blurC_block, blurC_loop, blurC_skip, blurC_exit, blurC_ret, tellS_nil, tellS_cons, List.set_cons_zero, List.set_cons_succ, tops_zero, tops_succ]
    by_cases h1 : i < t.kids.length
    · have ha := tr_at h1
      have hok := ho.ks _ (tr_mem h1)
      have hst := foldl_step (cstep (tcount l)) (1, (t.props.length : Int), 0) tr0 h1
      have hJ2 := fun (G2 : AHeap) (p1 : Past H G2) a' => hJ (G2, i + 1) a' ⟨p1, h1⟩ (by show t.kids.length - (i + 1) < t.kids.length - i; omega)
      clear hJ
      simp only [hst] at hJ2
      generalize t.kids.getD i tr0 = k at *
      generalize (t.kids.take i).foldl (cstep (tcount l)) (1, (t.props.length : Int), 0) = acc at *
      have hVc := Tr.V_cells k
      have hVi := Tr.V_is k
      simp (maxSteps := 4000000) (disch := (first | omega | (simp only [set_next, List.length_append, List.length_cons, List.length_nil, List.length_take, List.length_drop, List.length_map, List.length_set, List.length_replicate]; omega) | (simp only [set_next, ne_eq, reduceCtorEq, not_false_eq_true]))) only [ha, hVc, List.map_map, go_sem, Nat.reduceLeDiff, Nat.reduceAdd, Nat.reduceSub, Nat.reduceMul, Nat.reduceLT, Int.reduceLT, Int.reduceLE, Int.reduceAdd, Int.reduceSub, Int.reduceMul, Int.reduceToNat, Int.reduceNeg, Int.reduceEq, Nat.reducePow, Int.reducePow, Nat.reduceEqDiff, decide_true, decide_false, reduceIte, reduceCtorEq, Int.reduceBEq, Int.reduceBNe, bne_self_eq_false, Int.cast_ofNat_Int, Bool.not_true, Bool.not_false, IntKind.bits, w_nat, w_lit, w_add, w_addl, w_ladd, w_sub, w_subl, w_lsub, w_mul, w_mull, w_lmul, t_div, t_divl, t_mod, t_modl, i_lt, i_ltl, i_llt, i_le, i_lel, i_lle, i_eq, i_eql, i_leq, Nat.zero_le, d_beq, d_bne, d_bytes, byte_at, Int.toNat_natCast, toNat_lit, decide_eq_true, decide_eq_false, if_pos, if_neg, slA_len, slA_idx, slA_cells, flat_slA, one_slA, cells_slA, map_mid, strV_is, hp_get1, hp_get2, hp_get3, hp_set1, hp_set2, hp_set3, hp_old, hp_sold, set_got, set_set, set_next, set_other, bytesL, bytes_all, List.length_map, aapp_nils, aapp_wr, List.flatMap_cons, List.flatMap_nil, Nat.mul_one]
      rw [← hVi]
      refine ih _ _ _ (by omega) hok ?_
      unfold cstep at hJ2
      generalize tcount l k = c at *
      have hb : (if acc.2.2 < c.2.2 then AV.int .i64 c.2.2 else AV.int .i64 acc.2.2) = .int .i64 (mxI acc.2.2 c.2.2) := by unfold mxI; split <;> rfl
      have hb2 : (if acc.2.2 < c.2.2 then c.2.2 else acc.2.2) = mxI acc.2.2 c.2.2 := rfl
      refine stp (And.intro hb hb2) ?_
      rw [← hp_nil (H := hp G _)]
      exact hJ2 _ (past_hp hG _) _ fgt
    · rw [List.take_of_length_le (by omega)]
      generalize t.kids.foldl (cstep (tcount l)) (1, (t.props.length : Int), 0) = acc at *
      simp only [wI] at h
      refine stp0 ?_
      exact aret_past (past_hp hG _) hs (by simp only [u_top, u_bool, u_int, u_str, u_nilp, u_nils, u_nilf, u_nilm, u_nili, u_emp, u_byteV, u_ptr, u_wr, u_wc, u_agg, u_tup, u_rd, u_imm, u_func, u_nil, u_cons, u_app, uc_nil, uc_cons, uc_app, u_bytes, uc_bytes, u_ints, uc_ints, cells_bool, cells_int, cells_str, cells_agg, cells_ptr, cells_nils, cells_imm, cells_wr, cells_wc, cells_nilp, cells_nilf, cells_nilm, cells_rd, cells_emp, cells_byteV, cells_func, and_self, and_true, true_and, u_slA, uc_strs, cells_slA, strV_is]) h
/-- From (v, H) to (v', G): a slice's row has grown, and all else is as it was. -/
structure Grew (n0 : Nat) (v : AV) (H : AHeap) (v' : AV) (G : AHeap) : Prop where
  next : H.next ≤ G.next
  old : ∀ i, i < n0 → G.get i = H.get i
  other : ∀ i o, H.get i = some o → (∀ gen off len sz, v ≠ .wr i gen off len sz) → G.get i = some o
  id : ∀ j, j < H.next → (∀ gen off len sz, v ≠ .wr j gen off len sz) → ∀ gen off len sz, v' ≠ .wr j gen off len sz
/-- A call is handed a slice of one's own that nobody writes to any more. -/
theorem acalls_shut {P : Program} {f : Nat} {pre post : List AV} {y z : AV} {H H2 : AHeap} {K : AV → AHeap → Prop} (hS : Shut H y H2 z) (h : (ACalls P) f (pre ++ z :: post) H2 K) : (ACalls P) f (pre ++ y :: post) H K := by
  intro g w vs hSim hR o act next Qc hn
  obtain ⟨u, hu, hrep⟩ := Reps.get hR (i := pre.length) (y := y) (by simp)
  obtain ⟨g', hE, hS', hr'⟩ := hS.sound hSim hrep
  have hR2 := Reps.replace hE hR (fun v hv => by rw [hu] at hv; obtain rfl := Option.some.inj hv; exact hr')
  exact h g' w vs hS' hR2 o act next Qc (fun y' H' g2 w2 v hk hE2 => hn y' H' g2 w2 v hk (hE.trans hE2))
section
variable {H G G2 : AHeap} {K : AV → AHeap → Prop} {y v v' v2 : AV} {n0 : Nat}
theorem grew_refl : Grew n0 v H v H := ⟨Nat.le_refl _, fun _ _ => rfl, fun _ _ h _ => h, fun _ _ h => h⟩
theorem aret_full (hn : H.next ≤ G.next) (hG : G.within G.next) (hy : y.under G.next) (hk : K y G) : ARet H.next K y G :=
  ⟨G, y, G.next, .refl _ _, hn, hy, hG, by rw [trunc_self]; exact hk⟩
end
mutual
/-- A tree without what its slices are where they have nothing. -/
def Tr.strip : Tr → Tr
  | .mk n _ ps _ ks => .mk n 0 ps 0 (Tr.strips ks)
def Tr.strips : List Tr → List Tr
  | [] => []
  | t :: ts => t.strip :: Tr.strips ts
end
theorem Tr.strips_is : ∀ ks : List Tr, Tr.strips ks = ks.map Tr.strip
  | [] => by rw [Tr.strips]; rfl
  | t :: ts => by rw [Tr.strips, Tr.strips_is ts]; rfl
theorem Tr.strip_is (n : List UInt8) (kp : Nat) (ps : List (List UInt8 × List UInt8)) (kk : Nat) (ks : List Tr) : (Tr.mk n kp ps kk ks).strip = .mk n 0 ps 0 (ks.map Tr.strip) := by rw [Tr.strip, Tr.strips_is]
theorem Tr.strip_eta (t : Tr) : t.strip = .mk t.name 0 t.props 0 (t.kids.map Tr.strip) := by
  cases t with
  | mk n kp ps kk ks => exact Tr.strip_is n kp ps kk ks
theorem Tr.strip_name (t : Tr) : t.strip.name = t.name := by rw [Tr.strip_eta]; rfl
theorem Tr.strip_props (t : Tr) : t.strip.props = t.props := by rw [Tr.strip_eta]; rfl
theorem Tr.strip_kids (t : Tr) : t.strip.kids = t.kids.map Tr.strip := by rw [Tr.strip_eta]; rfl
def rowId : AV → List Nat
  | .wr id _ _ _ _ => [id]
  | _ => []
/-- Cells of a node in memory, the tree that they are, and the rows that it has. -/
inductive MT (G : AHeap) : List AV → Tr → List Nat → Prop
  | mk (name : List UInt8) (vp vk : AV) (ps : List (List UInt8 × List UInt8)) (css : List (List AV)) (ks : List Tr) (fps : List (List Nat)) :
    SlAt 0 G 62 2 vp (ps.map propV) → SlAt 0 G 25 3 vk (css.map AV.agg) → css.length = ks.length → fps.length = ks.length →
    (∀ i, i < ks.length → MT G (css.getD i []) (ks.getD i tr0) (fps.getD i [])) → MT G [.str (B name), vp, vk] (.mk name 0 ps 0 ks) (rowId vp ++ rowId vk ++ fps.flatten)
theorem slat_same {n0 : Nat} {G G' : AHeap} {e sz : Nat} {v : AV} {xs : List AV} (h : SlAt n0 G e sz v xs) (hg : ∀ i ∈ rowId v, G'.get i = G.get i) : SlAt n0 G' e sz v xs := by
  rcases h with q | ⟨id, gen, rfl, q2, q3⟩
  · exact .inl q
  · exact .inr ⟨id, gen, rfl, q2, (hg id (by simp [rowId])).trans q3⟩
theorem mem_fps {fps : List (List Nat)} {i j : Nat} (h : i ∈ fps.getD j []) : i ∈ fps.flatten := by
  rw [List.getD_eq_getElem?_getD] at h
  cases hj : fps[j]? with
  | none => rw [hj] at h; cases h
  | some f =>
    rw [hj] at h
    exact List.mem_flatten.2 ⟨f, List.mem_of_getElem? hj, h⟩
theorem mt_same {G G' : AHeap} {cs : List AV} {t : Tr} {F : List Nat} (h : MT G cs t F) (hg : ∀ i ∈ F, G'.get i = G.get i) : MT G' cs t F := by
  induction h with
  | mk name vp vk ps css ks fps h1 h2 h3 h4 _ ih =>
    refine .mk name vp vk ps css ks fps (slat_same h1 (fun i hi => hg i (by simp [hi]))) (slat_same h2 (fun i hi => hg i (by simp [hi]))) h3 h4 (fun i hi => ih i hi (fun j hj => hg j ?_))
    simp only [List.mem_append]
    exact .inr (mem_fps hj)
theorem rowId_lt {n0 : Nat} {G : AHeap} {e sz : Nat} {v : AV} {xs : List AV} (h : SlAt n0 G e sz v xs) {i : Nat} (hi : i ∈ rowId v) : i < G.next ∧ n0 ≤ i := by
  rcases h with ⟨rfl, _⟩ | ⟨id, gen, rfl, q2, q3⟩
  · cases hi
  · rw [List.mem_singleton.1 (show i ∈ [id] from hi)]
    exact ⟨G.lt q3, q2⟩
theorem mt_lt {G : AHeap} {cs : List AV} {t : Tr} {F : List Nat} (h : MT G cs t F) : ∀ i ∈ F, i < G.next := by
  induction h with
  | mk name vp vk ps css ks fps h1 h2 h3 h4 _ ih =>
    intro i hi
    rcases List.mem_append.1 hi with q | q
    · rcases List.mem_append.1 q with q | q
      · exact (rowId_lt h1 q).1
      · exact (rowId_lt h2 q).1
    · obtain ⟨f, hf, hif⟩ := List.mem_flatten.1 q
      obtain ⟨j, hj, rfl⟩ := List.getElem_of_mem hf
      exact ih j (by omega) i (by rw [List.getD_eq_getElem?_getD, List.getElem?_eq_getElem hj]; exact hif)
theorem slat_one2 {n0 : Nat} {G : AHeap} {e sz : Nat} {v : AV} {xs : List AV} (h : SlAt n0 G e sz v xs) : v.flat = true ∧ v.cells = [v] ∧ v.one = true ∧ v.under G.next := by
  rcases h with ⟨rfl, _⟩ | ⟨id, gen, rfl, _, h3⟩
  · exact ⟨rfl, rfl, rfl, .nils⟩
  · exact ⟨rfl, rfl, rfl, .wr _ _ _ _ _ (G.lt h3)⟩
theorem mt_cs {G : AHeap} {cs : List AV} {t : Tr} {F : List Nat} (h : MT G cs t F) : ∃ vp vk, cs = [.str (B t.name), vp, vk] ∧ (vp.flat = true ∧ vp.cells = [vp] ∧ vp.one = true ∧ vp.under G.next) ∧ (vk.flat = true ∧ vk.cells = [vk] ∧ vk.one = true ∧ vk.under G.next) := by
  cases h with
  | mk name vp vk ps css ks fps h1 h2 h3 h4 h5 => exact ⟨vp, vk, rfl, slat_one2 h1, slat_one2 h2⟩
/-- A heap of which parts are shut, whatever else there is. -/
def HShut (G G' : AHeap) : Prop := ∀ y, Shut G y G' y
theorem hshut_refl (G : AHeap) : HShut G G := fun y => .refl _ _
theorem hshut_trans {G G1 G2 : AHeap} (h : HShut G G1) (h2 : HShut G1 G2) : HShut G G2 := fun y => .trans _ _ _ _ _ _ (h y) (h2 y)
theorem slat_shut3 {n0 : Nat} {G : AHeap} {e sz : Nat} {v : AV} {xs : List AV} (h : SlAt n0 G e sz v xs) (hx : ∀ x ∈ xs, x.cells.length = sz) : ∃ G2 k, Shut G v G2 (slA k sz xs) ∧ G2.next = G.next ∧ ∀ i, i ∉ rowId v → G2.get i = G.get i := by
  rcases h with ⟨rfl, rfl⟩ | ⟨id, gen, rfl, hid, hg⟩
  · exact ⟨G, 0, .refl _ _, rfl, fun _ _ => rfl⟩
  · refine ⟨G.kill id, 2, ?_, rfl, fun i hi => kill_get_ne _ _ _ (fun e => hi (by rw [e]; exact List.mem_singleton.2 rfl))⟩
    have : slA 2 sz xs = .imm sz xs := by cases xs <;> rfl
    rw [this]
    refine .row _ _ _ _ _ _ e (xs.flatMap AV.cells) xs hg hx rfl ?_
    rw [List.drop_zero, List.take_of_length_le]
    rw [flat_length _ _ hx]
    exact Nat.le_refl _
theorem props_len (ps : List (List UInt8 × List UInt8)) : ∀ x ∈ ps.map propV, x.cells.length = 2 := fun x hx => by
  obtain ⟨p, _, rfl⟩ := List.mem_map.1 hx
  rfl
theorem trs_len (ks : List Tr) : ∀ x ∈ ks.map Tr.V, x.cells.length = 3 := fun x hx => by
  obtain ⟨t, _, rfl⟩ := List.mem_map.1 hx
  rw [Tr.V_cells]
  rfl
theorem agg_flat (css : List (List AV)) : (css.map AV.agg).flatMap AV.cells = css.flatten := by
  rw [List.flatMap_map]
  exact List.flatMap_id
theorem nodup_mid {A B C : List Nat} {k : List Nat} (h : (k ++ (A ++ (B ++ C))).Nodup) : B.Nodup ∧ (∀ i ∈ B, i ∉ k) ∧ (∀ i ∈ B, i ∉ A) ∧ (∀ i ∈ B, i ∉ C) := by
  rw [List.nodup_append] at h
  obtain ⟨_, h2, h3⟩ := h
  rw [List.nodup_append] at h2
  obtain ⟨_, h4, h5⟩ := h2
  rw [List.nodup_append] at h4
  obtain ⟨h6, _, h7⟩ := h4
  refine ⟨h6, fun i hi q => h3 i q i (by simp [hi]) rfl, fun i hi q => h5 i q i (by simp [hi]) rfl, fun i hi q => h7 i hi i q rfl⟩
theorem take_getD {α : Type} (d : α) {l : List α} {j : Nat} (h : j < l.length) : l.take (j + 1) = l.take j ++ [l.getD j d] ∧ l.drop j = l.getD j d :: l.drop (j + 1) := by
  rw [List.take_add_one, List.getElem?_eq_getElem h, List.getD_eq_getElem?_getD, List.getElem?_eq_getElem h, List.drop_eq_getElem_cons h]
  exact ⟨rfl, rfl⟩
theorem kids_freeze : ∀ (n : Nat) (ks : List Tr), SizeOf.sizeOf ks ≤ n → ∀ (G : AHeap) (vk : AV) (css : List (List AV)) (fps : List (List Nat)), SlAt 0 G 25 3 vk (css.map AV.agg) → css.length = ks.length → fps.length = ks.length →
    (∀ i, i < ks.length → MT G (css.getD i []) (ks.getD i tr0) (fps.getD i [])) → (rowId vk ++ fps.flatten).Nodup →
    ∃ (G2 : AHeap) (k2 : Nat) (ks2 : List Tr), Shut G vk G2 (slA k2 3 (ks2.map Tr.V)) ∧ ks2.map Tr.strip = ks ∧ G2.next = G.next ∧ ∀ i, i ∉ rowId vk ++ fps.flatten → G2.get i = G.get i
  | 0, ks, hn, G, vk, css, fps, h1, h2, h3, h4, hnd => by
    exfalso
    cases ks <;> simp at hn <;> omega
  | n + 1, ks, hn, G, vk, css, fps, h1, h2, h3, h4, hnd => by
    rcases h1 with ⟨rfl, he⟩ | ⟨idk, genk, rfl, hidk, hgk⟩
    · have hc : css = [] := by simpa using he
      have hk : ks = [] := List.eq_nil_of_length_eq_zero (by rw [← h2, hc]; rfl)
      exact ⟨G, 0, [], .refl _ _, by rw [hk]; rfl, rfl, fun _ _ => rfl⟩
    · rw [List.length_map, agg_flat] at *
      have hrow : rowId (.wr idk genk 0 css.length 3) = [idk] := rfl
      rw [hrow] at hnd
      have key : ∀ j, j ≤ ks.length → ∃ (Gj : AHeap) (ks2 : List Tr), HShut G Gj ∧ Gj.next = G.next ∧ ks2.length = j ∧ ks2.map Tr.strip = ks.take j ∧ Gj.get idk = some (.row 25 genk ((ks2.map Tr.V).flatMap AV.cells ++ (css.drop j).flatten)) ∧ ∀ i, i ≠ idk → i ∉ (fps.take j).flatten → Gj.get i = G.get i := by
        intro j
        induction j with
        | zero => exact fun _ => ⟨G, [], hshut_refl G, rfl, rfl, rfl, by rw [List.drop_zero]; exact hgk, fun _ _ _ => rfl⟩
        | succ j ihj =>
          intro hj
          obtain ⟨Gj, ks2, q1, q2, q3, q4, q5, q6⟩ := ihj (by omega)
          obtain ⟨f1, f2⟩ := take_getD ([] : List Nat) (l := fps) (j := j) (by omega)
          obtain ⟨c1, c2⟩ := take_getD ([] : List AV) (l := css) (j := j) (by omega)
          obtain ⟨t1, t2⟩ := take_getD tr0 (l := ks) (j := j) (by omega)
          have hfl : fps.flatten = (fps.take j).flatten ++ ((fps.getD j []) ++ (fps.drop (j + 1)).flatten) := by
            conv => lhs; rw [← List.take_append_drop j fps, List.flatten_append, f2, List.flatten_cons]
          rw [hfl] at hnd
          obtain ⟨n1, n2, n3, n4⟩ := nodup_mid hnd
          have hm := h4 j (by omega)
          have htm : ks.getD j tr0 ∈ ks := tr_mem (by omega)
          have hsz : SizeOf.sizeOf (ks.getD j tr0) < SizeOf.sizeOf ks := List.sizeOf_lt_of_mem htm
          have hmj : MT Gj (css.getD j []) (ks.getD j tr0) (fps.getD j []) := mt_same hm (fun i hi => q6 i (fun e => n2 i hi (by rw [e]; exact List.mem_singleton.2 rfl)) (n3 i hi))
          rw [c2, List.flatten_cons] at q5
          have hnext : fps.take (j + 1) = fps.take j ++ [fps.getD j []] := f1
          generalize fps.getD j [] = f at *
          generalize css.getD j [] = c at *
          generalize ks.getD j tr0 = t at *
          cases hmj with
          | mk name vp vk ps cssj ksj fpsj m1 m2 m3 m4 m5 =>
            have hsz2 : SizeOf.sizeOf ksj < SizeOf.sizeOf (Tr.mk name 0 ps 0 ksj) := by simp; omega
            obtain ⟨Gp, kp, s1, s2, s3⟩ := slat_shut3 m1 (props_len ps)
            have hnk : idk ∉ rowId vp := fun q => n2 idk (by simp [q]) (List.mem_singleton.2 rfl)
            have hnk2 : idk ∉ rowId vk ++ fpsj.flatten := fun q => n2 idk (by simp only [List.mem_append] at q ⊢; rcases q with q | q; exact .inl (.inr q); exact .inr q) (List.mem_singleton.2 rfl)
            have g1 : Gj.get idk = some (.row 25 genk (((ks2.map Tr.V).flatMap AV.cells ++ [.str (B name)]) ++ vp :: (vk :: (css.drop (j + 1)).flatten))) := by rw [q5]; simp
            have g2 : Gp.get idk = some (.row 25 genk (((ks2.map Tr.V).flatMap AV.cells ++ [.str (B name)]) ++ vp :: (vk :: (css.drop (j + 1)).flatten))) := (s3 idk hnk).trans g1
            have k1 : HShut Gj (Gp.set idk (.row 25 genk (((ks2.map Tr.V).flatMap AV.cells ++ [.str (B name)]) ++ slA kp 2 (ps.map propV) :: (vk :: (css.drop (j + 1)).flatten)))) := fun y => .cell _ _ _ _ _ _ _ _ _ _ g1 s1 g2
            generalize hGa : Gp.set idk (.row 25 genk (((ks2.map Tr.V).flatMap AV.cells ++ [.str (B name)]) ++ slA kp 2 (ps.map propV) :: (vk :: (css.drop (j + 1)).flatten))) = Ga at *
            have hna : Ga.next = Gj.next := by rw [← hGa]; exact s2
            have hao : ∀ i, i ≠ idk → i ∉ rowId vp → Ga.get i = Gj.get i := fun i h1 h2 => by rw [← hGa, set_other h1]; exact s3 i h2
            have hga : Ga.get idk = some (.row 25 genk (((ks2.map Tr.V).flatMap AV.cells ++ [.str (B name), slA kp 2 (ps.map propV)]) ++ vk :: (css.drop (j + 1)).flatten)) := by rw [← hGa, set_got (Gp.lt g2)]; simp
            have hnd2 : (rowId vk ++ fpsj.flatten).Nodup := by
              rw [List.append_assoc] at n1
              exact (List.nodup_append.1 n1).2.1
            have hdis : ∀ i, i ∈ rowId vk ++ fpsj.flatten → i ∉ rowId vp := fun i hi q => by
              rw [List.append_assoc] at n1
              exact (List.nodup_append.1 n1).2.2 i q i hi rfl
            obtain ⟨Gb, kq, ks3, r1, r2, r3, r4⟩ := kids_freeze n ksj (by omega) Ga vk cssj fpsj (slat_same m2 (fun i hi => hao i (fun e => hnk2 (by rw [← e]; simp [hi])) (hdis i (by simp [hi])))) m3 m4
              (fun i hi => mt_same (m5 i hi) (fun x hx => hao x (fun e => hnk2 (by rw [← e]; exact List.mem_append_right _ (mem_fps hx))) (hdis x (List.mem_append_right _ (mem_fps hx))))) hnd2
            have hgb : Gb.get idk = some (.row 25 genk (((ks2.map Tr.V).flatMap AV.cells ++ [.str (B name), slA kp 2 (ps.map propV)]) ++ vk :: (css.drop (j + 1)).flatten)) := (r4 idk hnk2).trans hga
            refine ⟨Gb.set idk (.row 25 genk (((ks2.map Tr.V).flatMap AV.cells ++ [.str (B name), slA kp 2 (ps.map propV)]) ++ slA kq 3 (ks3.map Tr.V) :: (css.drop (j + 1)).flatten)), ks2 ++ [.mk name kp ps kq ks3], hshut_trans q1 (hshut_trans k1 (fun y => .cell _ _ _ _ _ _ _ _ _ _ hga r1 hgb)), ?_, ?_, ?_, ?_, ?_⟩
            · show Gb.next = G.next
              rw [r3, hna, q2]
            · rw [List.length_append, q3]
              rfl
            · rw [List.map_append, q4, t1, List.map_cons, List.map_nil, Tr.strip_is, r2]
            · rw [set_got (Gb.lt hgb), List.map_append, List.flatMap_append]
              simp only [List.map_cons, List.map_nil, List.flatMap_cons, List.flatMap_nil, Tr.V_cells, Tr.name, Tr.kp, Tr.props, Tr.kk, Tr.kids]
              simp
            · intro i h1 h2
              rw [hnext, List.flatten_append, List.mem_append, not_or] at h2
              have h3 : i ∉ rowId vp ++ rowId vk ++ fpsj.flatten := by simpa using h2.2
              rw [List.append_assoc, List.mem_append, not_or] at h3
              rw [set_other h1, r4 i h3.2, hao i h1 h3.1]
              exact q6 i h1 h2.1
      obtain ⟨Gn, ks2, q1, q2, q3, q4, q5, q6⟩ := key ks.length (Nat.le_refl _)
      rw [← h2, List.drop_length, List.flatten_nil, List.append_nil] at q5
      rw [List.take_length] at q4
      refine ⟨Gn.kill idk, 2, ks2, .trans _ _ _ _ _ _ (q1 _) ?_, q4, q2, fun i hi => ?_⟩
      · have : slA 2 3 (ks2.map Tr.V) = .imm 3 (ks2.map Tr.V) := by cases ks2 <;> rfl
        rw [this]
        refine .row _ _ _ _ _ _ _ _ (ks2.map Tr.V) q5 (trs_len ks2) (by rw [List.length_map, q3, h2]) ?_
        rw [List.drop_zero, List.take_of_length_le]
        rw [flat_length _ _ (trs_len ks2), List.length_map, q3, h2]
        exact Nat.le_refl _
      · rw [hrow, List.mem_append, not_or] at hi
        have hne : i ≠ idk := fun e => hi.1 (by rw [e]; exact List.mem_singleton.2 rfl)
        rw [kill_get_ne _ _ _ hne]
        refine q6 i hne ?_
        rw [← h3, List.take_length]
        exact hi.2
/-- A tree in memory given away: the value that its readers have. -/
theorem mt_freeze {G : AHeap} {cs : List AV} {t : Tr} {F : List Nat} (h : MT G cs t F) (hnd : F.Nodup) : ∃ (G2 : AHeap) (t2 : Tr), Shut G (.agg cs) G2 t2.V ∧ t2.strip = t ∧ G2.next = G.next ∧ ∀ i, i ∉ F → G2.get i = G.get i := by
  cases h with
  | mk name vp vk ps css ks fps m1 m2 m3 m4 m5 =>
    rw [List.append_assoc] at hnd
    obtain ⟨_, hnd2, hdj⟩ := List.nodup_append.1 hnd
    obtain ⟨G1, kp, s1, s2, s3⟩ := slat_shut3 m1 (props_len ps)
    have hdis : ∀ i, i ∈ rowId vk ++ fps.flatten → i ∉ rowId vp := fun i hi q => hdj i q i hi rfl
    obtain ⟨G2, kq, ks3, r1, r2, r3, r4⟩ := kids_freeze _ ks (Nat.le_refl _) G1 vk css fps (slat_same m2 (fun i hi => s3 i (hdis i (by simp [hi])))) m3 m4 (fun i hi => mt_same (m5 i hi) (fun x hx => s3 x (hdis x (List.mem_append_right _ (mem_fps hx))))) hnd2
    refine ⟨G2, .mk name kp ps kq ks3, ?_, by rw [Tr.strip_is, r2], by rw [r3, s2], fun i hi => ?_⟩
    · rw [Tr.V_is]
      exact .trans _ _ _ _ _ _ (.agg _ _ [.str (B name)] [vk] _ _ s1) (.agg _ _ [.str (B name), slA kp 2 (ps.map propV)] [] _ _ r1)
    · rw [List.append_assoc, List.mem_append, not_or] at hi
      rw [r4 i hi.2, s3 i hi.1]
def c47 : ACode := 
    (.seq 
    (.region [⟨(some 1), (.s (.box 25 (.tmp 0))), none⟩, ⟨(some 2), (.s (.alloc 25 [(.str (B [])), .nils, .nils])), none⟩]) 
    (.seq 
    (.seq (.fregion [1] []) 
    (.regionN 4 [⟨(some 6), (.q (.fieldAddr 0 (.tmp 1))), none⟩, ⟨(some 7), (.q (.loadr false 1 (.tmp 6))), none⟩, ⟨(some 8), (.q (.fieldAddr 1 (.tmp 1))), none⟩, ⟨(some 9), (.q (.load false 1 (.tmp 8))), none⟩, ⟨(some 3), (.q (.move (.const .top))), none⟩, ⟨(some 10), (.s (.call 65 [(.tmp 9)])), none⟩, ⟨(some 11), (.q (.build [(.str (B [])), .nils, .nils] [(0, (1, (.tmp 7))), (1, (1, (.tmp 10)))])), none⟩, ⟨(some 3), (.s (.put 25 3 (.tmp 11))), none⟩])) 
    (.seq 
    (.seq 
    (.region [⟨(some 12), (.q (.fieldAddr 2 (.tmp 1))), none⟩, ⟨(some 13), (.q (.load false 1 (.tmp 12))), none⟩, ⟨(some 14), (.q (.len false (.tmp 13))), none⟩, ⟨(some 15), (.q (.move (.const (.int .i64 0)))), none⟩]) 
    (.block 0 
    (.loop 
    (.seq 
    (.region [⟨(some 16), (.q (.bin .lss (.tmp 15) (.tmp 14))), none⟩]) 
    (.seq 
    (.cond (.tmp 16) .skip (.exit 0)) 
    (.seq 
    (.block 1 
    (.seq 
    (.region [⟨(some 17), (.q (.idxSl 3 (.tmp 13) (.tmp 15))), none⟩, ⟨(some 18), (.q (.load true 3 (.tmp 17))), none⟩, ⟨(some 5), (.s (.alloc 25 [(.str (B [])), .nils, .nils])), none⟩, ⟨none, (.s (.store 3 (.tmp 5) (.tmp 18))), none⟩]) 
    (.seq (.fregion [5] []) 
    (.seq 
    (.region [⟨(some 19), (.q (.fieldAddr 2 (.tmp 3))), none⟩, ⟨(some 21), (.q (.loadr true 3 (.tmp 5))), none⟩]) (.both 
    (.region [⟨(some 20), (.q (.load false 1 (.tmp 19))), none⟩, ⟨(some 22), (.s (.call 47 [(.tmp 21)])), none⟩, ⟨(some 23), (.s (.lit 25 3 [(.tmp 22)])), none⟩, ⟨(some 24), (.s (.app 25 3 64 (.tmp 20) (.tmp 23))), none⟩, ⟨(some 25), (.q (.fieldAddr 2 (.tmp 3))), none⟩, ⟨none, (.s (.store 1 (.tmp 25) (.tmp 24))), none⟩]) 
    (.region [⟨(some 22), (.s (.call 47 [(.tmp 21)])), none⟩, ⟨(some 20), (.q (.load false 1 (.tmp 19))), none⟩, ⟨(some 23), (.s (.lit 25 3 [(.tmp 22)])), none⟩, ⟨(some 24), (.s (.app 25 3 64 (.tmp 20) (.tmp 23))), none⟩, ⟨(some 25), (.q (.fieldAddr 2 (.tmp 3))), none⟩, ⟨none, (.s (.store 1 (.tmp 25) (.tmp 24))), none⟩])))))) 
    (.region [⟨(some 26), (.q (.bin .add (.tmp 15) (.const (.int .i64 1)))), none⟩, ⟨(some 15), (.q (.move (.tmp 26))), none⟩]))))))) 
    (.seq 
    (.region [⟨(some 27), (.q (.load true 3 (.tmp 3))), none⟩, ⟨none, (.s (.store 3 (.tmp 2) (.tmp 27))), none⟩]) .ret))))
theorem t47 : Told Tryd.prog 47 28 c47 [(.cell 2 true 3)] := ⟨Tryd.f47, _, [2000001, 6000005, 6999999], Tryd.func47, rfl, by kernel_rfl, rfl, by kernel_rfl, by kernel_rfl⟩
def c65 : ACode := 
    (.seq 
    (.region [⟨(some 2), (.q (.move (.const .nils))), none⟩]) 
    (.seq 
    (.seq 
    (.region [⟨(some 3), (.q (.move (.tmp 0))), none⟩, ⟨(some 4), (.q (.nil .sl false (.tmp 3) (.const .nils))), none⟩]) 
    (.cond (.tmp 4) 
    (.seq 
    (.region [⟨(some 2), (.q (.move (.const .nils))), none⟩]) .ret) .skip)) 
    (.seq 
    (.region [⟨(some 5), (.s (.litw 62 2 [])), none⟩, ⟨(some 6), (.q (.move (.tmp 0))), none⟩, ⟨(some 7), (.s (.app 62 2 32 (.tmp 5) (.tmp 6))), none⟩, ⟨(some 2), (.q (.move (.tmp 7))), none⟩]) .ret)))
theorem t65 : Told Tryd.prog 65 8 c65 [(.tmp 2)] := ⟨Tryd.f65, _, [5], Tryd.func65, rfl, by kernel_rfl, rfl, by kernel_rfl, by kernel_rfl⟩
def c35 : ACode := 
    (.seq 
    (.region [⟨(some 6), (.q (.move (.const .nils))), none⟩]) 
    (.seq 
    (.region [⟨(some 8), (.q (.move (.tmp 0))), none⟩, ⟨(some 9), (.q (.move (.tmp 1))), none⟩, ⟨(some 10), (.q (.move (.tmp 2))), none⟩, ⟨(some 11), (.q (.move (.tmp 0))), none⟩, ⟨(some 12), (.q (.len false (.tmp 11))), none⟩, ⟨(some 13), (.s (.slice3l 2 (.tmp 8) (.tmp 9) (.tmp 10) (.tmp 12))), none⟩]) 
    (.seq 
    (.seq 
    (.region [⟨(some 14), (.q (.move (.tmp 1))), none⟩, ⟨(some 15), (.q (.move (.tmp 2))), none⟩, ⟨(some 16), (.q (.bin .eql (.tmp 14) (.tmp 15))), none⟩]) 
    (.cond (.tmp 16) 
    (.seq 
    (.region [⟨(some 17), (.q (.move (.tmp 0))), none⟩, ⟨(some 6), (.q (.move (.tmp 17))), none⟩]) .ret) .skip)) 
    (.seq 
    (.region [⟨(some 18), (.q (.move (.tmp 0))), none⟩, ⟨(some 19), (.q (.len false (.tmp 18))), none⟩, ⟨(some 7), (.q (.move (.tmp 19))), none⟩]) 
    (.seq 
    (.region [⟨(some 20), (.q (.move (.tmp 0))), none⟩, ⟨(some 21), (.q (.move (.tmp 1))), none⟩, ⟨(some 22), (.q (.sliceSl 2 (.tmp 20) none (some (.tmp 21)))), none⟩, ⟨(some 23), (.q (.move (.tmp 0))), none⟩, ⟨(some 24), (.q (.move (.tmp 2))), none⟩, ⟨(some 25), (.q (.sliceSl 2 (.tmp 23) (some (.tmp 24)) none)), none⟩, ⟨(some 26), (.s (.app 62 2 32 (.tmp 22) (.tmp 25))), none⟩, ⟨(some 0), (.q (.move (.tmp 26))), none⟩]) 
    (.seq 
    (.region [⟨(some 27), (.q (.move (.tmp 0))), none⟩, ⟨(some 28), (.q (.move (.tmp 0))), none⟩, ⟨(some 29), (.q (.len false (.tmp 28))), none⟩, ⟨(some 30), (.q (.move (.tmp 7))), none⟩, ⟨(some 31), (.q (.sliceSl 2 (.tmp 27) (some (.tmp 29)) (some (.tmp 30)))), none⟩, ⟨none, (.s (.clear 2 [(.str (B [])), (.str (B []))] (.tmp 31))), none⟩]) 
    (.seq 
    (.region [⟨(some 32), (.q (.move (.tmp 0))), none⟩, ⟨(some 6), (.q (.move (.tmp 32))), none⟩]) .ret)))))))
theorem t35 : Told Tryd.prog 35 33 c35 [(.tmp 6)] := ⟨Tryd.f35, _, [], Tryd.func35, rfl, by kernel_rfl, rfl, by kernel_rfl, by kernel_rfl⟩
def c44 : ACode := 
    (.seq 
    (.region [⟨(some 6), (.q (.move (.const .nils))), none⟩]) 
    (.seq 
    (.region [⟨(some 8), (.q (.move (.tmp 0))), none⟩, ⟨(some 9), (.q (.move (.tmp 1))), none⟩, ⟨(some 10), (.q (.move (.tmp 2))), none⟩, ⟨(some 11), (.q (.move (.tmp 0))), none⟩, ⟨(some 12), (.q (.len false (.tmp 11))), none⟩, ⟨(some 13), (.s (.slice3l 3 (.tmp 8) (.tmp 9) (.tmp 10) (.tmp 12))), none⟩]) 
    (.seq 
    (.seq 
    (.region [⟨(some 14), (.q (.move (.tmp 1))), none⟩, ⟨(some 15), (.q (.move (.tmp 2))), none⟩, ⟨(some 16), (.q (.bin .eql (.tmp 14) (.tmp 15))), none⟩]) 
    (.cond (.tmp 16) 
    (.seq 
    (.region [⟨(some 17), (.q (.move (.tmp 0))), none⟩, ⟨(some 6), (.q (.move (.tmp 17))), none⟩]) .ret) .skip)) 
    (.seq 
    (.region [⟨(some 18), (.q (.move (.tmp 0))), none⟩, ⟨(some 19), (.q (.len false (.tmp 18))), none⟩, ⟨(some 7), (.q (.move (.tmp 19))), none⟩]) 
    (.seq 
    (.region [⟨(some 20), (.q (.move (.tmp 0))), none⟩, ⟨(some 21), (.q (.move (.tmp 1))), none⟩, ⟨(some 22), (.q (.sliceSl 3 (.tmp 20) none (some (.tmp 21)))), none⟩, ⟨(some 23), (.q (.move (.tmp 0))), none⟩, ⟨(some 24), (.q (.move (.tmp 2))), none⟩, ⟨(some 25), (.q (.sliceSl 3 (.tmp 23) (some (.tmp 24)) none)), none⟩, ⟨(some 26), (.s (.app 25 3 64 (.tmp 22) (.tmp 25))), none⟩, ⟨(some 0), (.q (.move (.tmp 26))), none⟩]) 
    (.seq 
    (.region [⟨(some 27), (.q (.move (.tmp 0))), none⟩, ⟨(some 28), (.q (.move (.tmp 0))), none⟩, ⟨(some 29), (.q (.len false (.tmp 28))), none⟩, ⟨(some 30), (.q (.move (.tmp 7))), none⟩, ⟨(some 31), (.q (.sliceSl 3 (.tmp 27) (some (.tmp 29)) (some (.tmp 30)))), none⟩, ⟨none, (.s (.clear 3 [(.str (B [])), .nils, .nils] (.tmp 31))), none⟩]) 
    (.seq 
    (.region [⟨(some 32), (.q (.move (.tmp 0))), none⟩, ⟨(some 6), (.q (.move (.tmp 32))), none⟩]) .ret)))))))
theorem t44 : Told Tryd.prog 44 33 c44 [(.tmp 6)] := ⟨Tryd.f44, _, [], Tryd.func44, rfl, by kernel_rfl, rfl, by kernel_rfl, by kernel_rfl⟩
def c53 : ACode := 
    (.seq 
    (.region [⟨(some 4), (.s (.box 54 (.tmp 1))), none⟩, ⟨(some 6), (.q (.move (.const (.int .i64 0)))), none⟩]) 
    (.seq 
    (.seq 
    (.region [⟨(some 8), (.q (.load false 1 (.tmp 4))), none⟩, ⟨(some 9), (.q (.len false (.tmp 8))), none⟩, ⟨(some 10), (.q (.bin .eql (.tmp 9) (.const (.int .i64 0)))), none⟩]) 
    (.cond (.tmp 10) 
    (.seq 
    (.region [⟨(some 11), (.q (.move (.tmp 2))), none⟩, ⟨(some 12), (.q (.move (.tmp 0))), none⟩, ⟨(some 13), (.s (.callv (.tmp 11) [(.tmp 12)])), none⟩, ⟨(some 6), (.q (.move (.tmp 13))), none⟩]) .ret) .skip)) 
    (.seq 
    (.region [⟨(some 14), (.q (.move (.tmp 0))), none⟩, ⟨(some 15), (.q (.nonil (.tmp 14))), none⟩, ⟨(some 16), (.q (.fieldAddr 2 (.tmp 15))), none⟩, ⟨(some 17), (.q (.load false 1 (.tmp 16))), none⟩, ⟨(some 18), (.q (.mkFunc (.func 67) [] [(.tmp 4)])), none⟩, ⟨(some 19), (.s (.call 42 [(.tmp 17), (.tmp 18)])), none⟩, ⟨(some 7), (.q (.move (.tmp 19))), none⟩]) 
    (.seq 
    (.seq 
    (.region [⟨(some 20), (.q (.move (.tmp 7))), none⟩, ⟨(some 21), (.q (.bin .lss (.tmp 20) (.const (.int .i64 0)))), none⟩]) 
    (.cond (.tmp 21) 
    (.seq 
    (.region [⟨(some 6), (.q (.move (.const (.int .i64 8)))), none⟩]) .ret) .skip)) 
    (.seq 
    (.region [⟨(some 22), (.q (.move (.tmp 0))), none⟩, ⟨(some 23), (.q (.nonil (.tmp 22))), none⟩, ⟨(some 24), (.q (.fieldAddr 2 (.tmp 23))), none⟩, ⟨(some 25), (.q (.load false 1 (.tmp 24))), none⟩, ⟨(some 26), (.q (.move (.tmp 7))), none⟩, ⟨(some 27), (.q (.idxSl 3 (.tmp 25) (.tmp 26))), none⟩, ⟨(some 28), (.q (.load false 1 (.tmp 4))), none⟩, ⟨(some 29), (.q (.sliceSl 1 (.tmp 28) (some (.const (.int .i64 1))) none)), none⟩, ⟨(some 30), (.q (.move (.tmp 2))), none⟩, ⟨(some 31), (.s (.call 53 [(.tmp 27), (.tmp 29), (.tmp 30)])), none⟩, ⟨(some 6), (.q (.move (.tmp 31))), none⟩]) .ret)))))
theorem t53 : Told Tryd.prog 53 32 c53 [(.tmp 6)] := ⟨Tryd.f53, _, [], Tryd.func53, rfl, by kernel_rfl, rfl, by kernel_rfl, by kernel_rfl⟩
def c67 : ACode := 
    (.seq 
    (.region [⟨(some 2), (.s (.box 25 (.tmp 0))), none⟩, ⟨(some 3), (.q (.move (.const (.bool false)))), none⟩]) 
    (.seq 
    (.region [⟨(some 4), (.q (.fieldAddr 0 (.tmp 2))), none⟩, ⟨(some 5), (.q (.load false 1 (.tmp 4))), none⟩, ⟨(some 6), (.q (.load false 1 (.tmp 1))), none⟩, ⟨(some 7), (.q (.idxSl 1 (.tmp 6) (.const (.int .i64 0)))), none⟩, ⟨(some 8), (.q (.load false 1 (.tmp 7))), none⟩, ⟨(some 9), (.q (.bin .eql (.tmp 5) (.tmp 8))), none⟩, ⟨(some 3), (.q (.move (.tmp 9))), none⟩]) .ret))
theorem t67 : Told Tryd.prog 67 10 c67 [(.tmp 3)] := ⟨Tryd.f67, _, [], Tryd.func67, rfl, by kernel_rfl, rfl, by kernel_rfl, by kernel_rfl⟩
def c30 : ACode := 
    (.seq 
    (.region [⟨(some 3), (.s (.box 25 (.tmp 0))), none⟩, ⟨(some 6), (.s (.alloc 25 [(.str (B [])), .nils, .nils])), none⟩, ⟨(some 7), (.q (.move (.const (.int .i64 0)))), none⟩]) 
    (.seq 
    (.region [⟨(some 13), (.q (.move (.tmp 1))), none⟩, ⟨(some 14), (.s (.call 39 [(.tmp 13)])), none⟩, ⟨(some 12), (.q (.move (.tmp 14))), none⟩, ⟨(some 15), (.q (.extract 0 (.tmp 12))), none⟩, ⟨(some 16), (.q (.extract 1 (.tmp 12))), none⟩, ⟨(some 8), (.q (.move (.tmp 15))), none⟩, ⟨(some 9), (.q (.move (.tmp 16))), none⟩]) 
    (.seq 
    (.seq 
    (.region [⟨(some 17), (.q (.move (.tmp 9))), none⟩, ⟨(some 18), (.q (.un .not (.tmp 17))), none⟩]) 
    (.cond (.tmp 18) 
    (.seq 
    (.region [⟨(some 19), (.q (.build [(.str (B [])), .nils, .nils] [])), none⟩, ⟨none, (.s (.store 3 (.tmp 6) (.tmp 19))), none⟩, ⟨(some 7), (.q (.move (.const (.int .i64 8)))), none⟩]) .ret) .skip)) 
    (.seq 
    (.region [⟨(some 20), (.q (.load true 3 (.tmp 3))), none⟩, ⟨(some 21), (.s (.call 47 [(.tmp 20)])), none⟩, ⟨(some 10), (.s (.alloc 25 [(.str (B [])), .nils, .nils])), none⟩, ⟨none, (.s (.store 3 (.tmp 10) (.tmp 21))), none⟩]) 
    (.seq 
    (.seq 
    (.region [⟨(some 22), (.q (.move (.tmp 8))), none⟩, ⟨(some 23), (.q (.move (.tmp 2))), none⟩, ⟨(some 24), (.s (.call 53 [(.tmp 10), (.tmp 22), (.tmp 23)])), none⟩, ⟨(some 11), (.q (.move (.tmp 24))), none⟩]) 
    (.seq 
    (.region [⟨(some 25), (.q (.move (.tmp 11))), none⟩, ⟨(some 26), (.q (.bin .neq (.tmp 25) (.const (.int .i64 0)))), none⟩]) 
    (.cond (.tmp 26) 
    (.seq 
    (.region [⟨(some 27), (.q (.build [(.str (B [])), .nils, .nils] [])), none⟩, ⟨(some 28), (.q (.move (.tmp 11))), none⟩, ⟨none, (.s (.store 3 (.tmp 6) (.tmp 27))), none⟩, ⟨(some 7), (.q (.move (.tmp 28))), none⟩]) .ret) .skip))) 
    (.seq 
    (.region [⟨(some 29), (.q (.load true 3 (.tmp 10))), none⟩, ⟨(some 30), (.s (.call 46 [(.tmp 29)])), none⟩, ⟨(some 31), (.q (.extract 0 (.tmp 30))), none⟩, ⟨(some 32), (.q (.extract 1 (.tmp 30))), none⟩, ⟨none, (.s (.store 3 (.tmp 6) (.tmp 31))), none⟩, ⟨(some 7), (.q (.move (.tmp 32))), none⟩]) .ret))))))
theorem t30 : Told Tryd.prog 30 33 c30 [(.cell 6 true 3), (.tmp 7)] := ⟨Tryd.f30, _, [], Tryd.func30, rfl, by kernel_rfl, rfl, by kernel_rfl, by kernel_rfl⟩
def c46 : ACode := 
    (.seq 
    (.region [⟨(some 1), (.s (.box 25 (.tmp 0))), none⟩, ⟨(some 2), (.s (.alloc 25 [(.str (B [])), .nils, .nils])), none⟩, ⟨(some 3), (.q (.move (.const (.int .i64 0)))), none⟩]) 
    (.seq 
    (.region [⟨(some 8), (.q (.load true 3 (.tmp 1))), none⟩, ⟨(some 9), (.s (.call 63 [(.tmp 8)])), none⟩, ⟨(some 7), (.q (.move (.tmp 9))), none⟩, ⟨(some 10), (.q (.extract 0 (.tmp 7))), none⟩, ⟨(some 11), (.q (.extract 1 (.tmp 7))), none⟩, ⟨(some 12), (.q (.extract 2 (.tmp 7))), none⟩, ⟨(some 4), (.q (.move (.tmp 10))), none⟩, ⟨(some 5), (.q (.move (.tmp 11))), none⟩, ⟨(some 6), (.q (.move (.tmp 12))), none⟩]) 
    (.seq 
    (.block 0 
    (.seq 
    (.region [⟨(some 14), (.q (.move (.tmp 6))), none⟩, ⟨(some 15), (.q (.bin .gtr (.tmp 14) (.const (.int .i64 8)))), none⟩, ⟨(some 13), (.q (.move (.tmp 15))), none⟩]) 
    (.cond (.tmp 13) 
    (.seq 
    (.region [⟨(some 16), (.q (.build [(.str (B [])), .nils, .nils] [])), none⟩, ⟨none, (.s (.store 3 (.tmp 2) (.tmp 16))), none⟩, ⟨(some 3), (.q (.move (.const (.int .i64 13)))), none⟩]) .ret) 
    (.seq 
    (.region [⟨(some 18), (.q (.load true 3 (.tmp 1))), none⟩, ⟨(some 19), (.s (.call 64 [(.tmp 18)])), none⟩, ⟨(some 20), (.q (.un .not (.tmp 19))), none⟩, ⟨(some 17), (.q (.move (.tmp 20))), none⟩]) 
    (.cond (.tmp 17) 
    (.seq 
    (.region [⟨(some 21), (.q (.build [(.str (B [])), .nils, .nils] [])), none⟩, ⟨none, (.s (.store 3 (.tmp 2) (.tmp 21))), none⟩, ⟨(some 3), (.q (.move (.const (.int .i64 7)))), none⟩]) .ret) .skip))))) 
    (.seq 
    (.region [⟨(some 22), (.q (.load true 3 (.tmp 1))), none⟩, ⟨none, (.s (.store 3 (.tmp 2) (.tmp 22))), none⟩, ⟨(some 3), (.q (.move (.const (.int .i64 0)))), none⟩]) .ret))))
theorem t46 : Told Tryd.prog 46 23 c46 [(.cell 2 true 3), (.tmp 3)] := ⟨Tryd.f46, _, [], Tryd.func46, rfl, by kernel_rfl, rfl, by kernel_rfl, by kernel_rfl⟩
def c33 : ACode := 
    (.seq 
    (.region [⟨(some 3), (.s (.box 9 (.tmp 1))), none⟩, ⟨(some 4), (.q (.move (.const (.int .i64 0)))), none⟩]) 
    (.seq 
    (.region [⟨(some 5), (.q (.move (.tmp 0))), none⟩, ⟨(some 6), (.q (.nonil (.tmp 5))), none⟩, ⟨(some 7), (.q (.fieldAddr 1 (.tmp 6))), none⟩, ⟨(some 8), (.q (.load false 1 (.tmp 7))), none⟩, ⟨(some 9), (.q (.mkFunc (.func 56) [] [(.tmp 3)])), none⟩, ⟨(some 10), (.s (.call 55 [(.tmp 8), (.tmp 9)])), none⟩, ⟨(some 4), (.q (.move (.tmp 10))), none⟩]) .ret))
theorem t33 : Told Tryd.prog 33 11 c33 [(.tmp 4)] := ⟨Tryd.f33, _, [], Tryd.func33, rfl, by kernel_rfl, rfl, by kernel_rfl, by kernel_rfl⟩
def c56 : ACode := 
    (.seq 
    (.region [⟨(some 2), (.s (.box 62 (.tmp 0))), none⟩, ⟨(some 3), (.q (.move (.const (.bool false)))), none⟩]) 
    (.seq 
    (.region [⟨(some 4), (.q (.fieldAddr 0 (.tmp 2))), none⟩, ⟨(some 5), (.q (.load false 1 (.tmp 4))), none⟩, ⟨(some 6), (.q (.load false 1 (.tmp 1))), none⟩, ⟨(some 7), (.q (.bin .eql (.tmp 5) (.tmp 6))), none⟩, ⟨(some 3), (.q (.move (.tmp 7))), none⟩]) .ret))
theorem t56 : Told Tryd.prog 56 8 c56 [(.tmp 3)] := ⟨Tryd.f56, _, [], Tryd.func56, rfl, by kernel_rfl, rfl, by kernel_rfl, by kernel_rfl⟩
def c14 : ACode := 
    (.seq 
    (.region [⟨(some 4), (.s (.box 25 (.tmp 0))), none⟩, ⟨(some 6), (.s (.box 9 (.tmp 2))), none⟩, ⟨(some 7), (.s (.box 9 (.tmp 3))), none⟩, ⟨(some 8), (.s (.alloc 25 [(.str (B [])), .nils, .nils])), none⟩, ⟨(some 9), (.q (.move (.const (.int .i64 0)))), none⟩]) 
    (.seq 
    (.region [⟨(some 10), (.q (.load true 3 (.tmp 4))), none⟩, ⟨(some 11), (.q (.move (.tmp 1))), none⟩, ⟨(some 12), (.q (.mkFunc (.func 31) [] [(.tmp 6), (.tmp 7)])), none⟩, ⟨(some 13), (.s (.call 30 [(.tmp 10), (.tmp 11), (.tmp 12)])), none⟩, ⟨(some 14), (.q (.extract 0 (.tmp 13))), none⟩, ⟨(some 15), (.q (.extract 1 (.tmp 13))), none⟩, ⟨none, (.s (.store 3 (.tmp 8) (.tmp 14))), none⟩, ⟨(some 9), (.q (.move (.tmp 15))), none⟩]) .ret))
theorem t14 : Told Tryd.prog 14 16 c14 [(.cell 8 true 3), (.tmp 9)] := ⟨Tryd.f14, _, [], Tryd.func14, rfl, by kernel_rfl, rfl, by kernel_rfl, by kernel_rfl⟩
def c31 : ACode := 
    (.seq 
    (.region [⟨(some 4), (.q (.move (.const (.int .i64 0)))), none⟩]) 
    (.seq 
    (.seq 
    (.region [⟨(some 6), (.q (.load false 1 (.tmp 1))), none⟩, ⟨(some 7), (.s (.call 32 [(.tmp 6)])), none⟩, ⟨(some 8), (.q (.un .not (.tmp 7))), none⟩]) 
    (.cond (.tmp 8) 
    (.seq 
    (.region [⟨(some 4), (.q (.move (.const (.int .i64 1)))), none⟩]) .ret) .skip)) 
    (.seq 
    (.seq 
    (.region [⟨(some 9), (.q (.move (.tmp 0))), none⟩, ⟨(some 10), (.q (.load false 1 (.tmp 1))), none⟩, ⟨(some 11), (.s (.call 33 [(.tmp 9), (.tmp 10)])), none⟩, ⟨(some 5), (.q (.move (.tmp 11))), none⟩]) 
    (.seq 
    (.region [⟨(some 12), (.q (.move (.tmp 5))), none⟩, ⟨(some 13), (.q (.bin .geq (.tmp 12) (.const (.int .i64 0)))), none⟩]) 
    (.cond (.tmp 13) 
    (.region [⟨(some 14), (.q (.move (.tmp 0))), none⟩, ⟨(some 15), (.q (.nonil (.tmp 14))), none⟩, ⟨(some 16), (.q (.fieldAddr 1 (.tmp 15))), none⟩, ⟨(some 17), (.q (.load false 1 (.tmp 16))), none⟩, ⟨(some 18), (.q (.move (.tmp 5))), none⟩, ⟨(some 19), (.q (.load false 1 (.tmp 2))), none⟩, ⟨(some 20), (.q (.idxSl 2 (.tmp 17) (.tmp 18))), none⟩, ⟨(some 21), (.q (.fieldAddr 1 (.tmp 20))), none⟩, ⟨none, (.s (.store 1 (.tmp 21) (.tmp 19))), none⟩]) 
    (.region [⟨(some 22), (.q (.move (.tmp 0))), none⟩, ⟨(some 23), (.q (.move (.tmp 0))), none⟩, ⟨(some 24), (.q (.nonil (.tmp 23))), none⟩, ⟨(some 25), (.q (.fieldAddr 1 (.tmp 24))), none⟩, ⟨(some 26), (.q (.load false 1 (.tmp 25))), none⟩, ⟨(some 27), (.q (.load false 1 (.tmp 1))), none⟩, ⟨(some 28), (.q (.load false 1 (.tmp 2))), none⟩, ⟨(some 29), (.q (.build [(.str (B [])), (.str (B []))] [(0, (1, (.tmp 27))), (1, (1, (.tmp 28)))])), none⟩, ⟨(some 30), (.s (.lit 62 2 [(.tmp 29)])), none⟩, ⟨(some 31), (.s (.app 62 2 32 (.tmp 26) (.tmp 30))), none⟩, ⟨(some 32), (.q (.nonil (.tmp 22))), none⟩, ⟨(some 33), (.q (.fieldAddr 1 (.tmp 32))), none⟩, ⟨none, (.s (.store 1 (.tmp 33) (.tmp 31))), none⟩])))) 
    (.seq 
    (.region [⟨(some 4), (.q (.move (.const (.int .i64 0)))), none⟩]) .ret))))
theorem t31 : Told Tryd.prog 31 34 c31 [(.tmp 4)] := ⟨Tryd.f31, _, [], Tryd.func31, rfl, by kernel_rfl, rfl, by kernel_rfl, by kernel_rfl⟩
def c16 : ACode := 
    (.seq 
    (.region [⟨(some 3), (.s (.box 25 (.tmp 0))), none⟩, ⟨(some 5), (.s (.box 9 (.tmp 2))), none⟩, ⟨(some 6), (.s (.alloc 25 [(.str (B [])), .nils, .nils])), none⟩, ⟨(some 7), (.q (.move (.const (.int .i64 0)))), none⟩]) 
    (.seq 
    (.region [⟨(some 8), (.q (.load true 3 (.tmp 3))), none⟩, ⟨(some 9), (.q (.move (.tmp 1))), none⟩, ⟨(some 10), (.q (.mkFunc (.func 34) [] [(.tmp 5)])), none⟩, ⟨(some 11), (.s (.call 30 [(.tmp 8), (.tmp 9), (.tmp 10)])), none⟩, ⟨(some 12), (.q (.extract 0 (.tmp 11))), none⟩, ⟨(some 13), (.q (.extract 1 (.tmp 11))), none⟩, ⟨none, (.s (.store 3 (.tmp 6) (.tmp 12))), none⟩, ⟨(some 7), (.q (.move (.tmp 13))), none⟩]) .ret))
theorem t16 : Told Tryd.prog 16 14 c16 [(.cell 6 true 3), (.tmp 7)] := ⟨Tryd.f16, _, [], Tryd.func16, rfl, by kernel_rfl, rfl, by kernel_rfl, by kernel_rfl⟩
def c34 : ACode := 
    (.seq 
    (.region [⟨(some 3), (.q (.move (.const (.int .i64 0)))), none⟩]) 
    (.seq 
    (.region [⟨(some 5), (.q (.move (.tmp 0))), none⟩, ⟨(some 6), (.q (.load false 1 (.tmp 1))), none⟩, ⟨(some 7), (.s (.call 33 [(.tmp 5), (.tmp 6)])), none⟩, ⟨(some 4), (.q (.move (.tmp 7))), none⟩]) 
    (.seq 
    (.seq 
    (.region [⟨(some 8), (.q (.move (.tmp 4))), none⟩, ⟨(some 9), (.q (.bin .lss (.tmp 8) (.const (.int .i64 0)))), none⟩]) 
    (.cond (.tmp 9) 
    (.seq 
    (.region [⟨(some 3), (.q (.move (.const (.int .i64 8)))), none⟩]) .ret) .skip)) 
    (.seq 
    (.region [⟨(some 10), (.q (.move (.tmp 0))), none⟩, ⟨(some 11), (.q (.move (.tmp 0))), none⟩, ⟨(some 12), (.q (.nonil (.tmp 11))), none⟩, ⟨(some 13), (.q (.fieldAddr 1 (.tmp 12))), none⟩, ⟨(some 14), (.q (.load false 1 (.tmp 13))), none⟩, ⟨(some 15), (.q (.move (.tmp 4))), none⟩, ⟨(some 16), (.q (.move (.tmp 4))), none⟩, ⟨(some 17), (.q (.bin .add (.tmp 16) (.const (.int .i64 1)))), none⟩, ⟨(some 18), (.s (.call 35 [(.tmp 14), (.tmp 15), (.tmp 17)])), none⟩, ⟨(some 19), (.q (.nonil (.tmp 10))), none⟩, ⟨(some 20), (.q (.fieldAddr 1 (.tmp 19))), none⟩, ⟨none, (.s (.store 1 (.tmp 20) (.tmp 18))), none⟩]) 
    (.seq 
    (.region [⟨(some 3), (.q (.move (.const (.int .i64 0)))), none⟩]) .ret)))))
theorem t34 : Told Tryd.prog 34 21 c34 [(.tmp 3)] := ⟨Tryd.f34, _, [], Tryd.func34, rfl, by kernel_rfl, rfl, by kernel_rfl, by kernel_rfl⟩
def c17 : ACode := 
    (.seq 
    (.region [⟨(some 3), (.s (.box 25 (.tmp 0))), none⟩, ⟨(some 5), (.s (.box 9 (.tmp 2))), none⟩, ⟨(some 6), (.s (.alloc 25 [(.str (B [])), .nils, .nils])), none⟩, ⟨(some 7), (.q (.move (.const (.int .i64 0)))), none⟩]) 
    (.seq 
    (.region [⟨(some 8), (.q (.load true 3 (.tmp 3))), none⟩, ⟨(some 9), (.q (.move (.tmp 1))), none⟩, ⟨(some 10), (.q (.mkFunc (.func 36) [] [(.tmp 5)])), none⟩, ⟨(some 11), (.s (.call 30 [(.tmp 8), (.tmp 9), (.tmp 10)])), none⟩, ⟨(some 12), (.q (.extract 0 (.tmp 11))), none⟩, ⟨(some 13), (.q (.extract 1 (.tmp 11))), none⟩, ⟨none, (.s (.store 3 (.tmp 6) (.tmp 12))), none⟩, ⟨(some 7), (.q (.move (.tmp 13))), none⟩]) .ret))
theorem t17 : Told Tryd.prog 17 14 c17 [(.cell 6 true 3), (.tmp 7)] := ⟨Tryd.f17, _, [], Tryd.func17, rfl, by kernel_rfl, rfl, by kernel_rfl, by kernel_rfl⟩
def c18 : ACode := 
    (.seq 
    (.region [⟨(some 2), (.s (.box 25 (.tmp 0))), none⟩, ⟨(some 4), (.s (.alloc 25 [(.str (B [])), .nils, .nils])), none⟩, ⟨(some 5), (.q (.move (.const (.int .i64 0)))), none⟩]) 
    (.seq 
    (.region [⟨(some 10), (.q (.move (.tmp 1))), none⟩, ⟨(some 11), (.s (.call 39 [(.tmp 10)])), none⟩, ⟨(some 9), (.q (.move (.tmp 11))), none⟩, ⟨(some 12), (.q (.extract 0 (.tmp 9))), none⟩, ⟨(some 13), (.q (.extract 1 (.tmp 9))), none⟩, ⟨(some 6), (.s (.alloc 54 [.nils])), none⟩, ⟨none, (.s (.store 1 (.tmp 6) (.tmp 12))), none⟩, ⟨(some 7), (.q (.move (.tmp 13))), none⟩]) 
    (.seq 
    (.seq 
    (.region [⟨(some 14), (.q (.move (.tmp 7))), none⟩, ⟨(some 15), (.q (.un .not (.tmp 14))), none⟩]) 
    (.cond (.tmp 15) 
    (.seq 
    (.region [⟨(some 16), (.q (.build [(.str (B [])), .nils, .nils] [])), none⟩, ⟨none, (.s (.store 3 (.tmp 4) (.tmp 16))), none⟩, ⟨(some 5), (.q (.move (.const (.int .i64 8)))), none⟩]) .ret) .skip)) 
    (.seq 
    (.seq 
    (.region [⟨(some 17), (.q (.load false 1 (.tmp 6))), none⟩, ⟨(some 18), (.q (.len false (.tmp 17))), none⟩, ⟨(some 19), (.q (.bin .eql (.tmp 18) (.const (.int .i64 0)))), none⟩]) 
    (.cond (.tmp 19) 
    (.seq 
    (.region [⟨(some 20), (.q (.build [(.str (B [])), .nils, .nils] [])), none⟩, ⟨none, (.s (.store 3 (.tmp 4) (.tmp 20))), none⟩, ⟨(some 5), (.q (.move (.const (.int .i64 1)))), none⟩]) .ret) .skip)) 
    (.seq 
    (.region [⟨(some 21), (.q (.load false 1 (.tmp 6))), none⟩, ⟨(some 22), (.q (.len false (.tmp 21))), none⟩, ⟨(some 23), (.q (.bin .sub (.tmp 22) (.const (.int .i64 1)))), none⟩, ⟨(some 8), (.s (.alloc 3 [(.int .i64 0)])), none⟩, ⟨none, (.s (.store 1 (.tmp 8) (.tmp 23))), none⟩]) 
    (.seq 
    (.region [⟨(some 24), (.q (.load true 3 (.tmp 2))), none⟩, ⟨(some 25), (.q (.load false 1 (.tmp 6))), none⟩, ⟨(some 26), (.q (.load false 1 (.tmp 8))), none⟩, ⟨(some 27), (.q (.sliceSl 1 (.tmp 25) none (some (.tmp 26)))), none⟩, ⟨(some 28), (.c (.fn 40) [(.tmp 27)]), none⟩, ⟨(some 29), (.q (.mkFunc (.func 41) [] [(.tmp 6), (.tmp 8)])), none⟩, ⟨(some 30), (.s (.call 30 [(.tmp 24), (.tmp 28), (.tmp 29)])), none⟩, ⟨(some 31), (.q (.extract 0 (.tmp 30))), none⟩, ⟨(some 32), (.q (.extract 1 (.tmp 30))), none⟩, ⟨none, (.s (.store 3 (.tmp 4) (.tmp 31))), none⟩, ⟨(some 5), (.q (.move (.tmp 32))), none⟩]) .ret))))))
theorem t18 : Told Tryd.prog 18 33 c18 [(.cell 4 true 3), (.tmp 5)] := ⟨Tryd.f18, _, [], Tryd.func18, rfl, by kernel_rfl, rfl, by kernel_rfl, by kernel_rfl⟩
def c41 : ACode := 
    (.seq 
    (.region [⟨(some 4), (.q (.move (.const (.int .i64 0)))), none⟩]) 
    (.seq 
    (.region [⟨(some 6), (.q (.move (.tmp 0))), none⟩, ⟨(some 7), (.q (.nonil (.tmp 6))), none⟩, ⟨(some 8), (.q (.fieldAddr 2 (.tmp 7))), none⟩, ⟨(some 9), (.q (.load false 1 (.tmp 8))), none⟩, ⟨(some 10), (.q (.mkFunc (.func 43) [] [(.tmp 1), (.tmp 2)])), none⟩, ⟨(some 11), (.s (.call 42 [(.tmp 9), (.tmp 10)])), none⟩, ⟨(some 5), (.q (.move (.tmp 11))), none⟩]) 
    (.seq 
    (.seq 
    (.region [⟨(some 12), (.q (.move (.tmp 5))), none⟩, ⟨(some 13), (.q (.bin .lss (.tmp 12) (.const (.int .i64 0)))), none⟩]) 
    (.cond (.tmp 13) 
    (.seq 
    (.region [⟨(some 4), (.q (.move (.const (.int .i64 8)))), none⟩]) .ret) .skip)) 
    (.seq 
    (.region [⟨(some 14), (.q (.move (.tmp 0))), none⟩, ⟨(some 15), (.q (.move (.tmp 0))), none⟩, ⟨(some 16), (.q (.nonil (.tmp 15))), none⟩, ⟨(some 17), (.q (.fieldAddr 2 (.tmp 16))), none⟩, ⟨(some 18), (.q (.load false 1 (.tmp 17))), none⟩, ⟨(some 19), (.q (.move (.tmp 5))), none⟩, ⟨(some 20), (.q (.move (.tmp 5))), none⟩, ⟨(some 21), (.q (.bin .add (.tmp 20) (.const (.int .i64 1)))), none⟩, ⟨(some 22), (.s (.call 44 [(.tmp 18), (.tmp 19), (.tmp 21)])), none⟩, ⟨(some 23), (.q (.nonil (.tmp 14))), none⟩, ⟨(some 24), (.q (.fieldAddr 2 (.tmp 23))), none⟩, ⟨none, (.s (.store 1 (.tmp 24) (.tmp 22))), none⟩]) 
    (.seq 
    (.region [⟨(some 4), (.q (.move (.const (.int .i64 0)))), none⟩]) .ret)))))
theorem t41 : Told Tryd.prog 41 25 c41 [(.tmp 4)] := ⟨Tryd.f41, _, [], Tryd.func41, rfl, by kernel_rfl, rfl, by kernel_rfl, by kernel_rfl⟩
def c43 : ACode := 
    (.seq 
    (.region [⟨(some 3), (.s (.box 25 (.tmp 0))), none⟩, ⟨(some 4), (.q (.move (.const (.bool false)))), none⟩]) 
    (.seq 
    (.region [⟨(some 5), (.q (.fieldAddr 0 (.tmp 3))), none⟩, ⟨(some 6), (.q (.load false 1 (.tmp 5))), none⟩, ⟨(some 7), (.q (.load false 1 (.tmp 1))), none⟩, ⟨(some 8), (.q (.load false 1 (.tmp 2))), none⟩, ⟨(some 9), (.q (.idxSl 1 (.tmp 7) (.tmp 8))), none⟩, ⟨(some 10), (.q (.load false 1 (.tmp 9))), none⟩, ⟨(some 11), (.q (.bin .eql (.tmp 6) (.tmp 10))), none⟩, ⟨(some 4), (.q (.move (.tmp 11))), none⟩]) .ret))
theorem t43 : Told Tryd.prog 43 12 c43 [(.tmp 4)] := ⟨Tryd.f43, _, [], Tryd.func43, rfl, by kernel_rfl, rfl, by kernel_rfl, by kernel_rfl⟩
def c21 : ACode := 
    (.seq 
    (.region [⟨(some 2), (.s (.box 25 (.tmp 0))), none⟩, ⟨(some 4), (.s (.alloc 25 [(.str (B [])), .nils, .nils])), none⟩, ⟨(some 5), (.q (.move (.const (.int .i64 0)))), none⟩]) 
    (.seq 
    (.region [⟨(some 14), (.q (.move (.tmp 1))), none⟩, ⟨(some 15), (.s (.call 39 [(.tmp 14)])), none⟩, ⟨(some 13), (.q (.move (.tmp 15))), none⟩, ⟨(some 16), (.q (.extract 0 (.tmp 13))), none⟩, ⟨(some 17), (.q (.extract 1 (.tmp 13))), none⟩, ⟨(some 6), (.q (.move (.tmp 16))), none⟩, ⟨(some 7), (.q (.move (.tmp 17))), none⟩]) 
    (.seq 
    (.seq 
    (.region [⟨(some 18), (.q (.move (.tmp 7))), none⟩, ⟨(some 19), (.q (.un .not (.tmp 18))), none⟩]) 
    (.cond (.tmp 19) 
    (.seq 
    (.region [⟨(some 20), (.q (.build [(.str (B [])), .nils, .nils] [])), none⟩, ⟨none, (.s (.store 3 (.tmp 4) (.tmp 20))), none⟩, ⟨(some 5), (.q (.move (.const (.int .i64 8)))), none⟩]) .ret) .skip)) 
    (.seq 
    (.seq 
    (.region [⟨(some 21), (.q (.move (.tmp 6))), none⟩, ⟨(some 22), (.q (.len false (.tmp 21))), none⟩, ⟨(some 23), (.q (.move (.const (.int .i64 0)))), none⟩]) 
    (.block 0 
    (.loop 
    (.seq 
    (.region [⟨(some 24), (.q (.bin .lss (.tmp 23) (.tmp 22))), none⟩]) 
    (.seq 
    (.cond (.tmp 24) .skip (.exit 0)) 
    (.seq 
    (.block 1 
    (.seq 
    (.region [⟨(some 25), (.q (.move (.tmp 23))), none⟩, ⟨(some 8), (.q (.move (.tmp 25))), none⟩]) 
    (.seq 
    (.seq 
    (.regionN 10 [⟨(some 27), (.q (.load true 3 (.tmp 2))), none⟩, ⟨(some 28), (.q (.move (.tmp 6))), none⟩, ⟨(some 29), (.q (.move (.tmp 8))), none⟩, ⟨(some 30), (.q (.bin .add (.tmp 29) (.const (.int .i64 1)))), none⟩, ⟨(some 31), (.q (.sliceSl 1 (.tmp 28) none (some (.tmp 30)))), none⟩, ⟨(some 32), (.c (.fn 40) [(.tmp 31)]), none⟩, ⟨(some 9), (.q (.move (.const .top))), none⟩, ⟨(some 33), (.s (.call 45 [(.tmp 27), (.tmp 32)])), none⟩, ⟨(some 26), (.q (.move (.tmp 33))), none⟩, ⟨(some 34), (.q (.extract 0 (.tmp 26))), none⟩, ⟨(some 35), (.q (.extract 1 (.tmp 26))), none⟩, ⟨(some 9), (.s (.put 25 3 (.tmp 34))), none⟩, ⟨(some 10), (.q (.move (.tmp 35))), none⟩]) 
    (.seq 
    (.region [⟨(some 36), (.q (.move (.tmp 10))), none⟩]) 
    (.cond (.tmp 36) (.exit 1) .skip))) 
    (.seq 
    (.regionN 12 [⟨(some 38), (.q (.load true 3 (.tmp 2))), none⟩, ⟨(some 39), (.q (.move (.tmp 6))), none⟩, ⟨(some 40), (.q (.move (.tmp 8))), none⟩, ⟨(some 41), (.q (.sliceSl 1 (.tmp 39) none (some (.tmp 40)))), none⟩, ⟨(some 42), (.c (.fn 40) [(.tmp 41)]), none⟩, ⟨(some 43), (.q (.move (.tmp 6))), none⟩, ⟨(some 44), (.q (.move (.tmp 8))), none⟩, ⟨(some 45), (.q (.idxSl 1 (.tmp 43) (.tmp 44))), none⟩, ⟨(some 46), (.q (.load false 1 (.tmp 45))), none⟩, ⟨(some 11), (.q (.move (.const .top))), none⟩, ⟨(some 47), (.s (.call 17 [(.tmp 38), (.tmp 42), (.tmp 46)])), none⟩, ⟨(some 37), (.q (.move (.tmp 47))), none⟩, ⟨(some 48), (.q (.extract 0 (.tmp 37))), none⟩, ⟨(some 49), (.q (.extract 1 (.tmp 37))), none⟩, ⟨(some 11), (.s (.put 25 3 (.tmp 48))), none⟩, ⟨(some 12), (.q (.move (.tmp 49))), none⟩]) 
    (.seq 
    (.seq 
    (.region [⟨(some 50), (.q (.move (.tmp 12))), none⟩, ⟨(some 51), (.q (.bin .neq (.tmp 50) (.const (.int .i64 0)))), none⟩]) 
    (.cond (.tmp 51) 
    (.seq 
    (.region [⟨(some 52), (.q (.build [(.str (B [])), .nils, .nils] [])), none⟩, ⟨(some 53), (.q (.move (.tmp 12))), none⟩, ⟨none, (.s (.store 3 (.tmp 4) (.tmp 52))), none⟩, ⟨(some 5), (.q (.move (.tmp 53))), none⟩]) .ret) .skip)) 
    (.region [⟨(some 54), (.q (.load true 3 (.tmp 11))), none⟩, ⟨none, (.s (.store 3 (.tmp 2) (.tmp 54))), none⟩])))))) 
    (.region [⟨(some 55), (.q (.bin .add (.tmp 23) (.const (.int .i64 1)))), none⟩, ⟨(some 23), (.q (.move (.tmp 55))), none⟩]))))))) 
    (.seq 
    (.region [⟨(some 56), (.q (.load true 3 (.tmp 2))), none⟩, ⟨(some 57), (.s (.call 47 [(.tmp 56)])), none⟩, ⟨(some 58), (.s (.call 46 [(.tmp 57)])), none⟩, ⟨(some 59), (.q (.extract 0 (.tmp 58))), none⟩, ⟨(some 60), (.q (.extract 1 (.tmp 58))), none⟩, ⟨none, (.s (.store 3 (.tmp 4) (.tmp 59))), none⟩, ⟨(some 5), (.q (.move (.tmp 60))), none⟩]) .ret)))))
theorem t21 : Told Tryd.prog 21 61 c21 [(.cell 4 true 3), (.tmp 5)] := ⟨Tryd.f21, _, [], Tryd.func21, rfl, by kernel_rfl, rfl, by kernel_rfl, by kernel_rfl⟩
def c32 : ACode := 
    (.seq 
    (.region [⟨(some 2), (.q (.move (.const (.bool false)))), none⟩]) 
    (.seq 
    (.region [⟨(some 7), (.q (.move (.tmp 0))), none⟩, ⟨(some 8), (.s (.lit 9 1 [(.tmp 7)])), none⟩, ⟨(some 9), (.s (.call 54 [(.tmp 8)])), none⟩, ⟨(some 6), (.q (.move (.tmp 9))), none⟩, ⟨(some 10), (.q (.extract 0 (.tmp 6))), none⟩, ⟨(some 11), (.q (.extract 1 (.tmp 6))), none⟩, ⟨(some 12), (.q (.extract 2 (.tmp 6))), none⟩, ⟨(some 3), (.q (.move (.tmp 10))), none⟩, ⟨(some 4), (.q (.move (.tmp 11))), none⟩, ⟨(some 5), (.q (.move (.tmp 12))), none⟩]) 
    (.seq 
    (.region [⟨(some 13), (.q (.move (.tmp 5))), none⟩, ⟨(some 14), (.q (.bin .eql (.tmp 13) (.const (.int .i64 0)))), none⟩, ⟨(some 2), (.q (.move (.tmp 14))), none⟩]) .ret)))
theorem t32 : Told Tryd.prog 32 15 c32 [(.tmp 2)] := ⟨Tryd.f32, _, [], Tryd.func32, rfl, by kernel_rfl, rfl, by kernel_rfl, by kernel_rfl⟩
section
variable {g : Ghost} {w : World} {H : AHeap}
/-- A row's cells, and as many unknown ones as there is room for. -/
def padC (n : Nat) (cs : List AV) : List AV := cs ++ List.replicate (n - cs.length) .top
theorem padC_len (n : Nat) (cs : List AV) : n ≤ (padC n cs).length := by unfold padC; rw [List.length_append, List.length_replicate]; omega
theorem padC_take (n : Nat) (cs : List AV) {m : Nat} (h : m ≤ cs.length) : (padC n cs).take m = cs.take m := List.take_append_of_le_length h
theorem reps_set {vs : Array Value} {pre post : List AV} {y z : AV} (h : Reps g w vs (pre ++ y :: post)) (hz : ∀ v, vs[pre.length]? = some v → Rep g w v z) : Reps g w vs (pre ++ z :: post) := Reps.replace (Ext.refl g w) h hz
/-- A call that is handed a slice of one's own may be told with its capacity. -/
theorem acalls_cap {P : Program} {f id gen off len sz : Nat} {e : TypeId} {cs : List AV} {pre post : List AV} {K : AV → AHeap → Prop} (hg : H.get id = some (.row e gen cs))
    (h : ∀ cap, len ≤ cap → cap ≤ 9223372036854775807 → ACalls P f (pre ++ .wc id gen off len cap sz :: post) (H.set id (.row e gen (padC (off + cap * sz) cs))) K) : ACalls P f (pre ++ .wr id gen off len sz :: post) H K := by
  intro g w vs hS hR
  have hlt : pre.length < vs.size := by rw [hR.1]; simp
  have hr := hR.2 pre.length vs[pre.length] (.wr id gen off len sz) (Array.getElem?_eq_getElem hlt) (by simp)
  obtain ⟨b, c, e', n, hv, h1, h2, h3, h4, h5⟩ := hr.wr_inv
  have hlive := hS.live id _ hg
  have hobj : RepObj g w id (.row e gen (padC (off + c * sz) cs)) := by
    obtain ⟨b', cur, lo, hi, q1, q2, q3, q4, q5⟩ := hlive
    rw [h1] at q1
    obtain rfl := Option.some.inj q1
    have hn : cur.size = n := by
      unfold World.shape? at h2
      rw [q2] at h2
      simp only [Option.some.injEq, Prod.mk.injEq] at h2
      exact h2.2
    refine ⟨b, cur, lo, hi, h1, q2, q3, by unfold padC; rw [List.length_append, List.length_replicate]; omega, fun i y hy => ?_⟩
    unfold padC at hy
    by_cases hi1 : i < cs.length
    · rw [List.getElem?_append_left hi1] at hy
      exact q5 i y hy
    · rw [List.getElem?_append_right (by omega), List.getElem?_replicate] at hy
      split at hy
      · obtain rfl := Option.some.inj hy
        have : i < cur.size := by omega
        exact ⟨cur[i], Array.getElem?_eq_getElem this, .top _⟩
      · cases hy
  refine h c h4 h5 g w vs (sim_repad hS hg hobj) (reps_set hR (fun v hv2 => ?_))
  rw [Array.getElem?_eq_getElem hlt] at hv2
  obtain rfl := Option.some.inj hv2
  rw [hv]
  exact .wc id gen off len c sz b e' n h1 h2 h3 h4 h5
end
theorem flat_take {sz : Nat} : ∀ (xs : List AV) (i : Nat), (∀ x ∈ xs, x.cells.length = sz) → i ≤ xs.length → (xs.flatMap AV.cells).take (i * sz) = (xs.take i).flatMap AV.cells
  | [], i, _, h => by
    have : i = 0 := by simpa using h
    subst this
    simp
  | x :: xs, 0, _, _ => by simp
  | x :: xs, i + 1, hx, h => by
    have h1 := hx x List.mem_cons_self
    rw [List.flatMap_cons, List.take_succ_cons, List.flatMap_cons, List.take_append, List.take_of_length_le (by rw [h1, Nat.succ_mul]; omega), h1, show (i + 1) * sz - sz = i * sz by rw [Nat.succ_mul]; omega, flat_take xs i (fun y hy => hx y (List.mem_cons_of_mem _ hy)) (by simpa using h)]
theorem flat_drop {sz : Nat} : ∀ (xs : List AV) (i : Nat), (∀ x ∈ xs, x.cells.length = sz) → i ≤ xs.length → (xs.flatMap AV.cells).drop (i * sz) = (xs.drop i).flatMap AV.cells
  | [], i, _, h => by
    have : i = 0 := by simpa using h
    subst this
    simp
  | x :: xs, 0, _, _ => by simp
  | x :: xs, i + 1, hx, h => by
    have h1 := hx x List.mem_cons_self
    rw [List.flatMap_cons, List.drop_succ_cons, List.drop_append, List.drop_of_length_le (by rw [h1, Nat.succ_mul]; omega), List.nil_append, h1, show (i + 1) * sz - sz = i * sz by rw [Nat.succ_mul]; omega, flat_drop xs i (fun y hy => hx y (List.mem_cons_of_mem _ hy)) (by simpa using h)]
theorem slat_low {n0 n1 : Nat} {G : AHeap} {e sz : Nat} {v : AV} {xs : List AV} (h : SlAt n1 G e sz v xs) (hn : n0 ≤ n1) : SlAt n0 G e sz v xs := by
  rcases h with h | ⟨id, gen, h1, h2, h3⟩
  · exact .inl h
  · exact .inr ⟨id, gen, h1, Nat.le_trans hn h2, h3⟩
section
variable {H : AHeap} {K : AV → AHeap → Prop}
end
theorem props_one (l : List (List UInt8 × List UInt8)) : ((l.map propV).flatMap AV.cells).all AV.one = true := by
  rw [List.all_eq_true]
  intro c hc
  obtain ⟨x, hx, hcx⟩ := List.mem_flatMap.1 hc
  obtain ⟨p, _, rfl⟩ := List.mem_map.1 hx
  rw [propV_cells] at hcx
  simp only [List.mem_cons, List.mem_nil_iff, or_false] at hcx
  rcases hcx with rfl | rfl <;> rfl
theorem slat_app4 {n0 : Nat} {G : AHeap} {v : AV} {e sz b : Nat} {xs ys : List AV} (h : SlAt n0 G e sz v xs) (hn : n0 ≤ G.next) (hx : ∀ x ∈ xs, x.cells.length = sz) (h1 : (ys.flatMap AV.cells).all AV.one = true) (hb : (xs.length + ys.length) * b ≤ 140737488355328) (hw : G.within G.next) (hu2 : AllC G.next ys) :
    ∃ v' G', aapp e sz b G v (.imm sz ys) = some (v', hp G' []) ∧ SlAt n0 G' e sz v' (xs ++ ys) ∧ Grew n0 v G v' G' ∧ G'.within G'.next ∧ ∀ x, x < G.next → x ∉ rowId v → G'.get x = G.get x := by
  have hc : acells G sz (.imm sz ys) = some (ys.length, ys.flatMap AV.cells) := by simp only [acells, if_true]
  have hfy : AllU G.next (ys.flatMap AV.cells) := fun c hc => by
    obtain ⟨x, hx, hcx⟩ := List.mem_flatMap.1 hc
    exact hu2 x hx c hcx
  rcases h with ⟨rfl, rfl⟩ | ⟨id, gen, rfl, hid, hg⟩
  · rw [aapp_nils, hc]
    simp only [h1, if_true]
    by_cases hy : ys.length = 0
    · rw [if_pos hy]
      obtain rfl := List.length_eq_zero_iff.1 hy
      exact ⟨.nils, G, by rw [hp_nil], .inl ⟨rfl, rfl⟩, grew_refl, hw, fun _ _ _ => rfl⟩
    · rw [if_neg hy, if_pos (by simpa using hb)]
      refine ⟨.wr G.next 0 0 ys.length sz, G.push (.row e 0 (ys.flatMap AV.cells)), by rw [hp_nil], .inr ⟨G.next, 0, by simp, hn, ?_⟩, ⟨Nat.le_succ _, fun i hi => push_get_old _ _ _ (by omega), fun i o h _ => by rw [push_get_old _ _ _ (G.lt h)]; exact h, fun j hj _ gen off len sz e => ?_⟩, ?_, fun x hx _ => push_get_old _ _ _ hx⟩
      · rw [push_get_new]
        rfl
      · cases e
        omega
      · have hpush : G.push (.row e 0 (ys.flatMap AV.cells)) = hp G [.row e 0 (ys.flatMap AV.cells)] := by
          have := hp_push G [] (.row e 0 (ys.flatMap AV.cells))
          rw [hp_nil] at this
          exact this
        rw [hpush]
        refine within_hp2 hw (fun o ho => ?_)
        rw [List.mem_singleton] at ho
        subst ho
        exact fun c hc => up_under (Nat.le_succ _) (hfy c hc)
  · rw [aapp_wr, hc]
    simp only [h1, if_true, hg]
    rw [if_pos ⟨trivial, trivial, trivial, by rw [flat_length _ _ hx], hb⟩]
    refine ⟨.wr id (gen + 1) 0 (xs.length + ys.length) sz, G.set id (.row e (gen + 1) (xs.flatMap AV.cells ++ ys.flatMap AV.cells)), by rw [hp_nil], .inr ⟨id, gen + 1, by rw [List.length_append], hid, ?_⟩, ⟨Nat.le_refl _, fun i hi => set_get_ne _ _ _ _ (by omega), fun i o h hv => ?_, fun j hj hv gen2 off2 len2 sz2 e => ?_⟩, ?_, fun x hx hxv => set_get_ne _ _ _ _ (fun e => hxv (by rw [e]; exact List.mem_singleton.2 rfl))⟩
    · rw [set_got (G.lt hg), List.flatMap_append]
    · have : i ≠ id := fun h2 => hv _ _ _ _ (by rw [h2])
      rw [set_get_ne _ _ _ _ this]
      exact h
    · cases e
      exact hv _ _ _ _ rfl
    · refine within_set hw ?_
      rw [u_app]
      exact ⟨hw id _ (G.lt hg) hg, hfy⟩
section
variable {H : AHeap} {K : AV → AHeap → Prop}
theorem pclone_a {k : Nat} {l : List (List UInt8 × List UInt8)} (hn : l.length ≤ 1000000) (h : ∀ v G, SlAt H.next G 62 2 v (l.map propV) → Past H G → G.within G.next → K v G) : (ACalls Tryd.prog) 65 [slA k 2 (l.map propV)] H K := by
  refine acalls_go mo t65 (fun hs hu => ?_)
  have hrow : ∀ n, n = l.length → ARet H.next K (.wr (H.next + 0) 1 0 n 2) (hp H [.row 62 1 ((l.map propV).flatMap AV.cells)]) := by
    rintro n rfl
    have hw : (hp H [.row 62 1 ((l.map propV).flatMap AV.cells)]).within (hp H [.row 62 1 ((l.map propV).flatMap AV.cells)]).next := within_hp2 hs (fun o ho => by
      rw [List.mem_singleton] at ho
      subst ho
      intro c hc
      obtain ⟨x, hx, hcx⟩ := List.mem_flatMap.1 hc
      exact props_u _ l x hx c hcx)
    refine aret_full (Nat.le_add_right _ _) hw (.wr _ _ _ _ _ (by show H.next + 0 < H.next + 1; omega)) (h _ _ (.inr ⟨H.next + 0, 1, by rw [List.length_map], Nat.le_refl _, hp_get _ _ 0⟩) (past_hp past_refl _) hw)
  have hal := props_one l
  have hlen : (l.map propV).length = l.length := List.length_map _
  rcases slA_cases k 2 (l.map propV) with ⟨hk, hx⟩ | ⟨hk, hx⟩ | hk
  · simp only [c65, hk, go_sem, Nat.reduceLeDiff, Nat.reduceAdd, Nat.reduceSub, Nat.reduceMul, Nat.reduceLT, Int.reduceLT, Int.reduceLE, Int.reduceAdd, Int.reduceSub, Int.reduceMul, Int.reduceToNat, Int.reduceNeg, Int.reduceEq, Nat.reducePow, Int.reducePow, Nat.reduceEqDiff, decide_true, decide_false, reduceIte, reduceCtorEq, Int.reduceBEq, Int.reduceBNe, bne_self_eq_false, Int.cast_ofNat_Int, Bool.not_true, Bool.not_false, IntKind.bits]
    have h2 := h .nils H (by rw [hx]; exact slat_nil) past_refl hs
    rw [hp_nil]
    exact aret_full (Nat.le_refl _) hs .nils h2
  · have hl0 : l = [] := by simpa using hx
    subst hl0
    rw [List.map_nil] at hk
    simp only [c65, hk, go_sem, Nat.reduceLeDiff, Nat.reduceAdd, Nat.reduceSub, Nat.reduceMul, Nat.reduceLT, Int.reduceLT, Int.reduceLE, Int.reduceAdd, Int.reduceSub, Int.reduceMul, Int.reduceToNat, Int.reduceNeg, Int.reduceEq, Nat.reducePow, Int.reducePow, Nat.reduceEqDiff, decide_true, decide_false, reduceIte, reduceCtorEq, Int.reduceBEq, Int.reduceBNe, bne_self_eq_false, Int.cast_ofNat_Int, Bool.not_true, Bool.not_false, IntKind.bits]
    refine stp0 ?_
    exact hrow 0 rfl
  · simp only [c65, hk, go_sem, Nat.reduceLeDiff, Nat.reduceAdd, Nat.reduceSub, Nat.reduceMul, Nat.reduceLT, Int.reduceLT, Int.reduceLE, Int.reduceAdd, Int.reduceSub, Int.reduceMul, Int.reduceToNat, Int.reduceNeg, Int.reduceEq, Nat.reducePow, Int.reducePow, Nat.reduceEqDiff, decide_true, decide_false, reduceIte, reduceCtorEq, Int.reduceBEq, Int.reduceBNe, bne_self_eq_false, Int.cast_ofNat_Int, Bool.not_true, Bool.not_false, IntKind.bits]
    refine stp (And.intro hal hlen) ?_
    exact hrow _ rfl
/-- Sizes that a tree in memory has. -/
inductive TrB : Tr → Prop
  | mk (name : List UInt8) (kp : Nat) (props : List (List UInt8 × List UInt8)) (kk : Nat) (kids : List Tr) : props.length ≤ 1000000 → kids.length ≤ 1000000 → (∀ k ∈ kids, TrB k) → TrB (.mk name kp props kk kids)
end
theorem slat_live {n0 : Nat} {G : AHeap} {e sz : Nat} {v : AV} {xs : List AV} (h : SlAt n0 G e sz v xs) {i : Nat} (hi : i ∈ rowId v) : ∃ o, G.get i = some o := by
  rcases h with ⟨rfl, _⟩ | ⟨id, gen, rfl, q2, q3⟩
  · cases hi
  · rw [List.mem_singleton.1 (show i ∈ [id] from hi)]
    exact ⟨_, q3⟩
theorem mt_live {G : AHeap} {cs : List AV} {t : Tr} {F : List Nat} (h : MT G cs t F) : ∀ i ∈ F, ∃ o, G.get i = some o := by
  induction h with
  | mk name vp vk ps css ks fps h1 h2 h3 h4 _ ih =>
    intro i hi
    rcases List.mem_append.1 hi with q | q
    · rcases List.mem_append.1 q with q | q
      · exact slat_live h1 q
      · exact slat_live h2 q
    · obtain ⟨f, hf, hif⟩ := List.mem_flatten.1 q
      obtain ⟨j, hj, rfl⟩ := List.getElem_of_mem hf
      exact ih j (by omega) i (by rw [List.getD_eq_getElem?_getD, List.getElem?_eq_getElem hj]; exact hif)
theorem rowId_wr {v : AV} {i : Nat} (hi : i ∉ rowId v) : ∀ gen off len sz, v ≠ .wr i gen off len sz := fun gen off len sz e => by
  rw [e] at hi
  exact hi (List.mem_singleton.2 rfl)
theorem rowId_of {v : AV} {i : Nat} (hi : i ∈ rowId v) : ∃ gen off len sz, v = .wr i gen off len sz := by
  cases v <;> simp [rowId] at hi
  subst hi
  exact ⟨_, _, _, _, rfl⟩
theorem rowId_nodup (v : AV) : (rowId v).Nodup := by
  cases v <;> simp [rowId]
theorem mem_fl {fps : List (List Nat)} {x : Nat} (h : x ∈ fps.flatten) : ∃ j, j < fps.length ∧ x ∈ fps.getD j [] := by
  obtain ⟨f, hf, hx⟩ := List.mem_flatten.1 h
  obtain ⟨j, hj, rfl⟩ := List.getElem_of_mem hf
  exact ⟨j, hj, by rw [List.getD_eq_getElem?_getD, List.getElem?_eq_getElem hj]; exact hx⟩
/-- A copy under way: the node's own cells, and those of its kids so far. -/
structure CpInv (H : AHeap) (r3 : Nat) (name : List UInt8) (vp : AV) (ps : List (List UInt8 × List UInt8)) (ks : List Tr) (G : AHeap) (vk : AV) (css : List (List AV)) (fps : List (List Nat)) (i : Nat) : Prop where
  past : Past H G
  wit : G.within G.next
  row : G.get r3 = some (.row 25 0 [.str (B name), vp, vk])
  res : G.get (H.next + 1) = some (.row 25 0 [.str (B []), .nils, .nils])
  pr : SlAt (H.next + 2) G 62 2 vp (ps.map propV)
  kd : SlAt (r3 + 1) G 25 3 vk (css.map AV.agg)
  lc : css.length = i
  lf : fps.length = i
  le : i ≤ ks.length
  kids : ∀ j, j < i → MT G (css.getD j []) ((ks.getD j tr0).strip) (fps.getD j [])
  nd : (rowId vk ++ fps.flatten).Nodup
  ge : ∀ x ∈ rowId vk ++ fps.flatten, r3 + 1 ≤ x
  vpl : ∀ x ∈ rowId vp, x < r3
  hr3 : H.next + 2 ≤ r3
theorem cp_step {H : AHeap} {r3 : Nat} {name : List UInt8} {vp : AV} {ps : List (List UInt8 × List UInt8)} {ks : List Tr} {G Gq G' : AHeap} {vk : AV} {css : List (List AV)} {fps : List (List Nat)} {i : Nat} {cs : List AV} {F : List Nat}
    (hI : CpInv H r3 name vp ps ks G vk css fps i) (hi : i < ks.length) (hkb : ks.length ≤ 1000000) (hq : Past G Gq) (hP : Past Gq G') (hm : MT G' cs (ks.getD i tr0).strip F) (hnd : F.Nodup) (hge : ∀ x ∈ F, Gq.next ≤ x) (hw : G'.within G'.next) :
    ∃ v3 G4, aapp 25 3 64 (hp G' []) vk (.imm 3 [.agg cs]) = some (v3, hp G4 []) ∧ G4.get r3 = some (.row 25 0 [.str (B name), vp, vk]) ∧ (v3.flat = true ∧ v3.cells = [v3] ∧ v3.one = true) ∧
      CpInv H r3 name vp ps ks (G4.set r3 (.row 25 0 [.str (B name), vp, v3])) v3 (css ++ [cs]) (fps ++ [F]) (i + 1) := by
  obtain ⟨h1, h2, h3, h4, h5, h6, h7, h8, h9, h10, h11, h12, h13, h14⟩ := hI
  have PG : Past G G' := past_trans hq hP
  have hl3 := G.lt h3
  obtain ⟨a, b, rfl, ⟨a1, a2, a3, a4⟩, b1, b2, b3, b4⟩ := mt_cs hm
  have hone : ([AV.agg [.str (B (ks.getD i tr0).strip.name), a, b]].flatMap AV.cells).all AV.one = true := by
    simp only [List.flatMap_cons, List.flatMap_nil, List.append_nil]
    show ([AV.str (B (ks.getD i tr0).strip.name), a, b]).all AV.one = true
    simp only [List.all_cons, List.all_nil, a3, b3]
    rfl
  have hks' : SlAt (r3 + 1) G' 25 3 vk (css.map AV.agg) := slat_same h6 (fun x hx => PG.get x (rowId_lt h6 hx).1)
  have hclen : ∀ x ∈ css.map AV.agg, x.cells.length = 3 := fun x hx => by
    obtain ⟨c, hc, rfl⟩ := List.mem_map.1 hx
    obtain ⟨j, hj, rfl⟩ := List.getElem_of_mem hc
    have := h10 j (by omega)
    rw [List.getD_eq_getElem?_getD, List.getElem?_eq_getElem hj] at this
    obtain ⟨_, _, e, _⟩ := mt_cs this
    rw [show (some css[j]).getD [] = css[j] from rfl] at e
    show css[j].length = 3
    rw [e]
    rfl
  obtain ⟨v3, G4, hE, hv3, hgr, hw4, _⟩ := slat_app4 (G := hp G' []) (b := 64) (ys := [.agg [.str (B (ks.getD i tr0).strip.name), a, b]]) (slat_hp hks' []) (by rw [hp_nil]; have := PG.next; omega) hclen hone (by simp only [List.length_map, List.length_singleton]; omega) (by rw [hp_nil]; exact hw) (fun x hx c hc => by
    rw [List.mem_singleton] at hx
    subst hx
    have hc : c ∈ [AV.str (B (ks.getD i tr0).strip.name), a, b] := hc
    rw [hp_nil]
    simp only [List.mem_cons, List.mem_nil_iff, or_false] at hc
    rcases hc with rfl | rfl | rfl
    · exact .str _
    · exact a4
    · exact b4)
  rw [hp_nil] at hgr
  have hr4 : G4.get r3 = some (.row 25 0 [.str (B name), vp, vk]) := (hgr.old r3 (by omega)).trans ((PG.get r3 hl3).trans h3)
  have hmap : css.map AV.agg ++ [AV.agg [.str (B (ks.getD i tr0).strip.name), a, b]] = (css ++ [[.str (B (ks.getD i tr0).strip.name), a, b]]).map AV.agg := by rw [List.map_append]; rfl
  rw [hmap] at hv3
  obtain ⟨f1, f2, f3, f4⟩ := slat_one2 hv3
  have hid3 : ∀ x ∈ rowId v3, x ∈ rowId vk ∨ G'.next ≤ x := fun x hx => by
    by_cases hxn : x < G'.next
    · refine .inl (Decidable.byContradiction fun hc => ?_)
      obtain ⟨gen, off, len, sz, e⟩ := rowId_of hx
      exact hgr.id x hxn (rowId_wr hc) gen off len sz e
    · exact .inr (by omega)
  have hkeep : ∀ x, x ∉ rowId vk → x ≠ r3 → (∃ o, G'.get x = some o) → (G4.set r3 (.row 25 0 [.str (B name), vp, v3])).get x = G'.get x := fun x hx hx3 ⟨o, ho⟩ => by
    rw [set_other hx3, ho]
    exact hgr.other x o ho (rowId_wr hx)
  have hfl : ∀ x ∈ fps.flatten, x < G.next ∧ x ∉ rowId vk ∧ r3 + 1 ≤ x := fun x hx => by
    obtain ⟨j, hj, hxj⟩ := mem_fl hx
    exact ⟨mt_lt (h10 j (by omega)) x hxj, fun q => (List.nodup_append.1 h11).2.2 x q x hx rfl, h12 x (List.mem_append_right _ hx)⟩
  have hF : ∀ x ∈ F, x ∉ rowId vk ∧ r3 + 1 ≤ x ∧ x < G'.next ∧ x ∉ fps.flatten := fun x hx => by
    have g1 := hge x hx
    have g2 := hq.next
    exact ⟨fun q => by have := (rowId_lt h6 q).1; omega, by omega, mt_lt hm x hx, fun q => by have := (hfl x q).1; omega⟩
  refine ⟨v3, G4, hE, hr4, ⟨f1, f2, f3⟩, ?_, ?_, set_got (G4.lt hr4), ?_, ?_, ?_, by rw [List.length_append, h7]; rfl, by rw [List.length_append, h8]; rfl, hi, fun j hj => ?_, ?_, fun x hx => ?_, h13, h14⟩
  · have hPn := h1.next
    have hPg := PG.next
    have := hgr.next
    exact past_set ⟨by omega, fun x hx => (hgr.old x (by omega)).trans ((PG.get x (by omega)).trans (h1.get x hx))⟩ (by omega) _
  · refine within_set hw4 (fun c hc => ?_)
    have := h2 r3 _ hl3 h3
    simp only [List.mem_cons, List.mem_nil_iff, or_false] at hc
    rcases hc with rfl | rfl | rfl
    · exact .str _
    · exact (slat_one2 (slat_same h5 (G' := G4) (fun x hx => (hgr.old x (by have := h13 x hx; omega)).trans (PG.get x (by have := h13 x hx; omega))))).2.2.2
    · exact f4
  · rw [set_other (by omega)]
    exact (hgr.old _ (by omega)).trans ((PG.get _ (by omega)).trans h4)
  · exact slat_same h5 (fun x hx => by
      have := h13 x hx
      rw [set_other (by omega)]
      exact (hgr.old x (by omega)).trans (PG.get x (by omega)))
  · exact slat_same hv3 (fun x hx => set_other (fun e => by
      have := (rowId_lt hv3 hx).2
      omega))
  · by_cases hji : j = i
    · subst hji
      have e1 : (css ++ [[AV.str (B (ks.getD j tr0).strip.name), a, b]]).getD j [] = [AV.str (B (ks.getD j tr0).strip.name), a, b] := by
        rw [List.getD_eq_getElem?_getD, List.getElem?_append_right (by omega), h7, Nat.sub_self]
        rfl
      have e2 : (fps ++ [F]).getD j [] = F := by
        rw [List.getD_eq_getElem?_getD, List.getElem?_append_right (by omega), h8, Nat.sub_self]
        rfl
      rw [e1, e2]
      exact mt_same hm (fun x hx => hkeep x (hF x hx).1 (by have := (hF x hx).2.1; omega) (mt_live hm x hx))
    · have hlt : j < i := by omega
      have e1 : (css ++ [[AV.str (B (ks.getD i tr0).strip.name), a, b]]).getD j [] = css.getD j [] := by
        rw [List.getD_eq_getElem?_getD, List.getElem?_append_left (by omega), List.getD_eq_getElem?_getD]
      have e2 : (fps ++ [F]).getD j [] = fps.getD j [] := by
        rw [List.getD_eq_getElem?_getD, List.getElem?_append_left (by omega), List.getD_eq_getElem?_getD]
      rw [e1, e2]
      have hmj := h10 j hlt
      refine mt_same hmj (fun x hx => ?_)
      obtain ⟨g1, g2, g3⟩ := hfl x (mem_fps hx)
      have e3 := PG.get x g1
      obtain ⟨o, ho⟩ := mt_live hmj x hx
      rw [hkeep x g2 (by omega) ⟨o, e3.trans ho⟩, e3]
  · rw [List.flatten_append, List.nodup_append]
    refine ⟨rowId_nodup v3, ?_, fun x hx y hy e => ?_⟩
    · rw [List.nodup_append]
      refine ⟨(List.nodup_append.1 h11).2.1, by simpa using hnd, fun x hx y hy e => ?_⟩
      have hy : y ∈ F := by simpa using hy
      rw [← e] at hy
      exact (hF x hy).2.2.2 hx
    · subst e
      rcases List.mem_append.1 hy with q | q
      · obtain ⟨g1, g2, _⟩ := hfl x q
        have := PG.next
        rcases hid3 x hx with g | g
        · exact g2 g
        · omega
      · have hq2 : x ∈ F := by simpa using q
        obtain ⟨g1, g2, g3, _⟩ := hF x hq2
        rcases hid3 x hx with g | g
        · exact g1 g
        · omega
  · rw [List.flatten_append] at hx
    rcases List.mem_append.1 hx with q | q
    · exact (rowId_lt hv3 q).2
    · rcases List.mem_append.1 q with q | q
      · exact (hfl x q).2.2
      · exact (hF x (by simpa using q)).2.1
theorem Copy_a : ∀ (n : Nat) (t : Tr), SizeOf.sizeOf t ≤ n → TrB t → ∀ (H : AHeap) (K : AV → AHeap → Prop), (∀ cs G F, MT G cs t.strip F → F.Nodup → (∀ i ∈ F, H.next ≤ i) → Past H G → G.within G.next → K (.agg cs) G) → (ACalls Tryd.prog) 47 [t.V] H K
  | 0, t, hn, hb, H, K, h => by
    exfalso
    cases t
    simp at hn
  | n + 1, t, hn, hb, H, K, h => by
    cases hb with
    | mk name kp ps kk ks hb1 hb2 hb3 =>
    refine acalls_go mo t47 (fun hs hu => ?_)
    have hV : Tr.V (.mk name kp ps kk ks) = .agg [.str (B name), slA kp 2 (ps.map propV), slA kk 3 (ks.map Tr.V)] := Tr.V_is _
    simp only [c47, hV, go_sem, Nat.reduceLeDiff, Nat.reduceAdd, Nat.reduceSub, Nat.reduceMul, Nat.reduceLT, Int.reduceLT, Int.reduceLE, Int.reduceAdd, Int.reduceSub, Int.reduceMul, Int.reduceToNat, Int.reduceNeg, Int.reduceEq, Nat.reducePow, Int.reducePow, Nat.reduceEqDiff, decide_true, decide_false, reduceIte, reduceCtorEq, Int.reduceBEq, Int.reduceBNe, bne_self_eq_false, Int.cast_ofNat_Int, Bool.not_true, Bool.not_false, IntKind.bits]
    rw [frz_one (t := 1) rfl (hp_get _ _ 0)]
    have hnk : ((hp H [.row 25 0 [.str (B name), slA kp 2 (ps.map propV), slA kk 3 (ks.map Tr.V)], .row 25 0 [.str (B []), .nils, .nils]]).kill (H.next + 0)).next = H.next + 2 := rfl
    have hPk : Past H ((hp H [.row 25 0 [.str (B name), slA kp 2 (ps.map propV), slA kk 3 (ks.map Tr.V)], .row 25 0 [.str (B []), .nils, .nils]]).kill (H.next + 0)) := past_kill (past_hp past_refl _) (by omega)
    have hr2 : ((hp H [.row 25 0 [.str (B name), slA kp 2 (ps.map propV), slA kk 3 (ks.map Tr.V)], .row 25 0 [.str (B []), .nils, .nils]]).kill (H.next + 0)).get (H.next + 1) = some (.row 25 0 [.str (B []), .nils, .nils]) := (kill_get_ne _ _ _ (by omega)).trans (hp_get _ _ 1)
    generalize (hp H [.row 25 0 [.str (B name), slA kp 2 (ps.map propV), slA kk 3 (ks.map Tr.V)], .row 25 0 [.str (B []), .nils, .nils]]).kill (H.next + 0) = Gk at *
    rw [← hp_nil (H := Gk)]
    refine stp0 ?_
    refine pclone_a (by omega) (fun vp G1 hvp hG1 hw1 => ?_)
    rw [hp_nil] at hvp hG1
    rw [hnk] at hvp
    obtain ⟨p1, p2, p3, p4⟩ := slat_one2 hvp
    have hn1 : H.next + 2 ≤ G1.next := by have := hG1.next; omega
    rw [← hp_nil (H := G1)]
    refine stp (And.intro p1 (And.intro p2 p3)) ?_
    have hinit : CpInv H (G1.next + 0) name vp ps ks (hp G1 [.row 25 0 [.str (B name), vp, .nils]]) .nils [] [] 0 := by
      refine ⟨past_trans hPk (past_hp hG1 _), within_hp2 hw1 (fun o ho => ?_), hp_get _ _ 0, (hp_old (by omega)).trans ((hG1.get _ (by omega)).trans hr2), slat_hp hvp _, slat_nil, rfl, rfl, Nat.zero_le _, (fun j hj => absurd hj (Nat.not_lt_zero _)), .nil, (fun x hx => by cases hx), (fun x hx => (rowId_lt hvp hx).1), hn1⟩
      rw [List.mem_singleton] at ho
      subst ho
      intro c hc
      simp only [List.mem_cons, List.mem_nil_iff, or_false] at hc
      rcases hc with rfl | rfl | rfl
      · exact .str _
      · exact up_under (Nat.le_add_right _ _) p4
      · exact .nils
    refine go_loopS mono (σ := AHeap × AV × List (List AV) × List (List Nat) × Nat) (fun z => [(15, .int .i64 (z.2.2.2.2 : Int))]) (fun z => hp z.1 []) (fun z => CpInv H (G1.next + 0) name vp ps ks z.1 z.2.1 z.2.2.1 z.2.2.2.1 z.2.2.2.2) (fun z => ks.length - z.2.2.2.2) (hp G1 [.row 25 0 [.str (B name), vp, .nils]], .nils, [], [], 0) ?_ (by rw [hp_nil]) hinit (fun z hz J hJ => ?_)
    · exact fgt
    obtain ⟨G, vk, css, fps, i⟩ := z
    have hI : CpInv H (G1.next + 0) name vp ps ks G vk css fps i := hz
    clear hz hinit
    have hr3 := hI.row
    have hl3 := G.lt hr3
    simp only [blurR_nil, blurR_some, blurR_none, blurC_region, blurC_regionN, blurC_fregion, blurT_nil, blurT_cons, blurC_seq, blurC_both, blurC_cond, blurC_block, blurC_loop, blurC_skip, blurC_exit, blurC_ret, tellS_nil, tellS_cons, List.set_cons_zero, List.set_cons_succ, tops_zero, tops_succ]
    by_cases d1 : i < ks.length
    · have ha := tr_at d1
      have hsz : SizeOf.sizeOf (ks.getD i tr0) < SizeOf.sizeOf ks := List.sizeOf_lt_of_mem (tr_mem d1)
      have hsz2 : SizeOf.sizeOf ks < SizeOf.sizeOf (Tr.mk name kp ps kk ks) := by simp; omega
      have hbk := hb3 _ (tr_mem d1)
      have hJ2 := fun (G2 : AHeap) (v2 : AV) (css2 : List (List AV)) (fps2 : List (List Nat)) (p : CpInv H (G1.next + 0) name vp ps ks G2 v2 css2 fps2 (i + 1)) a' => hJ (G2, v2, css2, fps2, i + 1) a' p (by show ks.length - (i + 1) < ks.length - i; omega)
      clear hJ
      have hst := fun {Gq G' cs F} => cp_step (Gq := Gq) (G' := G') (cs := cs) (F := F) hI d1 hb2
      generalize ks.getD i tr0 = kd at *
      have hVk := Tr.V_is kd
      simp (maxSteps := 4000000) (disch := (first | omega | (simp only [set_next, List.length_append, List.length_cons, List.length_nil, List.length_take, List.length_drop, List.length_map, List.length_set, List.length_replicate]; omega) | (simp only [set_next, ne_eq, reduceCtorEq, not_false_eq_true]))) only [ha, Tr.V_cells, go_sem, Nat.reduceLeDiff, Nat.reduceAdd, Nat.reduceSub, Nat.reduceMul, Nat.reduceLT, Int.reduceLT, Int.reduceLE, Int.reduceAdd, Int.reduceSub, Int.reduceMul, Int.reduceToNat, Int.reduceNeg, Int.reduceEq, Nat.reducePow, Int.reducePow, Nat.reduceEqDiff, decide_true, decide_false, reduceIte, reduceCtorEq, Int.reduceBEq, Int.reduceBNe, bne_self_eq_false, Int.cast_ofNat_Int, Bool.not_true, Bool.not_false, IntKind.bits, w_nat, w_lit, w_add, w_addl, w_ladd, w_sub, w_subl, w_lsub, w_mul, w_mull, w_lmul, t_div, t_divl, t_mod, t_modl, i_lt, i_ltl, i_llt, i_le, i_lel, i_lle, i_eq, i_eql, i_leq, Nat.zero_le, d_beq, d_bne, d_bytes, byte_at, Int.toNat_natCast, toNat_lit, decide_eq_true, decide_eq_false, if_pos, if_neg, slA_len, slA_idx, slA_cells, flat_slA, one_slA, cells_slA, map_mid, strV_is, hp_get1, hp_get2, hp_get3, hp_set1, hp_set2, hp_set3, hp_old, hp_sold, set_got, set_set, set_next, set_other, bytesL, bytes_all, List.length_map, aapp_nils, aapp_wr, List.flatMap_cons, List.flatMap_nil, Nat.mul_one]
      rw [frz_one (t := 5) rfl (hp_get _ _ 0)]
      have hPq : Past G ((hp G [.row 25 0 [.str (B kd.name), slA kd.kp 2 (kd.props.map propV), slA kd.kk 3 (kd.kids.map Tr.V)]]).kill (G.next + 0)) := past_kill (past_hp past_refl _) (by omega)
      generalize (hp G [.row 25 0 [.str (B kd.name), slA kd.kp 2 (kd.props.map propV), slA kd.kk 3 (kd.kids.map Tr.V)]]).kill (G.next + 0) = Gq at *
      have hr3q : Gq.get (G1.next + 0) = _ := (hPq.get _ hl3).trans hr3
      have hl3q := Gq.lt hr3q
      rw [← hp_nil (H := Gq)]
      refine stp0 ?_
      rw [go_both]
      refine ⟨?_, ?_⟩
      · refine stp hr3q ?_
        rw [← hVk]
        refine Copy_a n kd (by omega) hbk _ _ (fun cs G' F hm hnd hge hP hw => ?_)
        rw [hp_nil] at hge hP
        obtain ⟨v3, G4, hE, hr4, ⟨f1, f2, f3⟩, hN⟩ := hst hPq hP hm hnd hge hw
        obtain ⟨a, b, rfl, ⟨a1, a2, a3, _⟩, b1, b2, b3, _⟩ := mt_cs hm
        have hl4 := G4.lt hr4
        rw [← hp_nil (H := G')]
        refine stp (And.intro a1 (And.intro a2 (And.intro a3 (And.intro b1 (And.intro b2 (And.intro b3 (And.intro hE (And.intro hr4 (And.intro f1 (And.intro f2 f3)))))))))) ?_
        exact hJ2 _ v3 _ _ hN _ fgt
      · refine stp0 ?_
        rw [← hVk]
        refine Copy_a n kd (by omega) hbk _ _ (fun cs G' F hm hnd hge hP hw => ?_)
        rw [hp_nil] at hge hP
        obtain ⟨v3, G4, hE, hr4, ⟨f1, f2, f3⟩, hN⟩ := hst hPq hP hm hnd hge hw
        obtain ⟨a, b, rfl, ⟨a1, a2, a3, _⟩, b1, b2, b3, _⟩ := mt_cs hm
        have hl4 := G4.lt hr4
        have hr3g : G'.get (G1.next + 0) = _ := (hP.get _ hl3q).trans hr3q
        have hl3g := G'.lt hr3g
        rw [← hp_nil (H := G')]
        refine stp (And.intro hr3g (And.intro a1 (And.intro a2 (And.intro a3 (And.intro b1 (And.intro b2 (And.intro b3 (And.intro hE (And.intro hr4 (And.intro f1 (And.intro f2 f3))))))))))) ?_
        exact hJ2 _ v3 _ _ hN _ fgt
    · obtain ⟨h1, h2, h3, h4, h5, h6, h7, h8, h9, h10, h11, h12, h13, h14⟩ := hI
      have hi : i = ks.length := by omega
      subst hi
      have hl4 := G.lt h4
      obtain ⟨q1, q2, q3, q4⟩ := slat_one2 h5
      obtain ⟨r1, r2, r3, r4⟩ := slat_one2 h6
      refine stp (And.intro h3 (And.intro h4 (And.intro q1 (And.intro q2 (And.intro q3 (And.intro r1 (And.intro r2 r3))))))) ?_
      rw [hp_nil]
      have hw' : (G.set (H.next + 1) (.row 25 0 [.str (B name), vp, vk])).within G.next := within_set h2 (fun c hc => by
        simp only [List.mem_cons, List.mem_nil_iff, or_false] at hc
        rcases hc with rfl | rfl | rfl
        · exact .str _
        · exact q4
        · exact r4)
      have ho : ∀ x, H.next + 2 ≤ x → (G.set (H.next + 1) (.row 25 0 [.str (B name), vp, vk])).get x = G.get x := fun x hx => set_other (by omega)
      have hfl : ∀ x ∈ fps.flatten, G1.next + 0 + 1 ≤ x := fun x hx => h12 x (List.mem_append_right _ hx)
      refine aret_full (G := G.set (H.next + 1) (.row 25 0 [.str (B name), vp, vk])) h1.next hw' ?_ (h _ _ (rowId vp ++ rowId vk ++ fps.flatten) ?_ ?_ (fun x hx => ?_) (past_set h1 (by omega) _) hw')
      · rw [u_agg]
        simp only [u_cons, u_nil, u_str, true_and, and_true]
        exact ⟨q4, r4⟩
      · rw [Tr.strip_is]
        refine .mk name vp vk ps css (ks.map Tr.strip) fps (slat_low (slat_same h5 (fun x hx => ho x (rowId_lt h5 hx).2)) (Nat.zero_le _)) (slat_low (slat_same h6 (fun x hx => ho x (by have := (rowId_lt h6 hx).2; omega))) (Nat.zero_le _)) (by rw [h7, List.length_map]) (by rw [h8, List.length_map]) (fun j hj => ?_)
        rw [List.length_map] at hj
        have e : (ks.map Tr.strip).getD j tr0 = (ks.getD j tr0).strip := by
          rw [List.getD_eq_getElem?_getD, List.getElem?_map, List.getD_eq_getElem?_getD, List.getElem?_eq_getElem hj]
          rfl
        rw [e]
        exact mt_same (h10 j hj) (fun x hx => ho x (by have := hfl x (mem_fps hx); omega))
      · rw [List.append_assoc, List.nodup_append]
        refine ⟨rowId_nodup vp, h11, fun x hx y hy e => ?_⟩
        have g1 := h13 x hx
        have g2 := h12 y hy
        omega
      · rcases List.mem_append.1 hx with q | q
        · rcases List.mem_append.1 q with q | q
          · have := (rowId_lt h5 q).2
            omega
          · have := (rowId_lt h6 q).2
            omega
        · have := hfl x q
          omega
end Go.Proofs.YtdknpnmdjjmapaaDoor.AL
