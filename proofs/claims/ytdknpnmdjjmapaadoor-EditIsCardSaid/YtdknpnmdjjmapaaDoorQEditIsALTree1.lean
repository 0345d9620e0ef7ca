/- Trees told: counting them. -/
import Derived.Test.YtdknpnmdjjmapaaDoorQEditIsALDSuf
import Derived.Test.YtdknpnmdjjmapaaDoorQEditIsALA4
import Derived.Test.YtdknpnmdjjmapaaDoorQEditIsALA3
import Derived.Test.YtdknpnmdjjmapaaDoorProg
import Derived.KernelRfl
set_option linter.unusedSimpArgs false
set_option linter.unusedVariables false
set_option maxRecDepth 100000
set_option maxHeartbeats 16000000
namespace Go.Proofs.YtdknpnmdjjmapaaDoor.AL
open Go Go.Proofs
attribute [local go_sem] go_seq go_skip go_region go_regionN go_fregion rgF_some go_cond go_block go_exit go_ret nxt_nil nxt_code nxt_blk nxt_cut leave_nil leave_code leave_cut leave_blk rtn_nil rtn_code rtn_blk rtn_cut cnd_t cnd_f rgn_nil rgY_some rgY_none rgH_some rgP_some retTo_is rgV_func grd_und grd_tt grd_ff grd_tf grd_ft rgn_q rgn_alloc rgn_box rgn_store rgn_lit rgn_litw litCells_nil litCells_cons rgn_app rgn_copy rgn_mk rgn_s2b rgn_call rgn_callv rgn_stop rgn_slice3 aslice3 rgn_slice3l aslice3l rgn_appz rgn_clear rgn_range rgn_next arange acap rgn_put rgn_mkmap rgn_lookup rgn_mapup alookup_nilm alookup_map amapup_map afound_ok afound_no rgn_c rgn_cv qclV_func aloadr rgn_guard post_ret post_normal retY_some ares aresL ares1 AX.ev aput List.getD_cons_zero List.getD_cons_succ List.set_cons_zero List.set_cons_succ List.map_cons List.map_nil aq abin aint astr abeq aconv asame aextract alenS alenL_nils alenL_emp alenL_imm alenL_wr alenL_wc aun apart aload afieldAddr afield aidxSl_wr aidxSl_wc aidxSl_imm aidxPt aidxStr aidxArr abound asliceStr asliceSl asliceArr abest anonil afill astore acells_nils acells_emp acells_imm acells_wr acells_wc acells_str acopy litAll amk as2b anil nilOf aseq aeqs aeqv fits fit1 hp_next hp_push hp_get hp_set List.length_cons List.length_nil List.getElem?_cons_zero List.getElem?_cons_succ List.cons_append List.nil_append List.append_nil List.take_succ_cons List.take_zero List.drop_succ_cons List.drop_zero List.all_cons List.all_nil Option.map_some Option.some.injEq Bool.and_true Bool.true_and Bool.false_eq_true if_true if_false ite_true ite_false Bool.and_self true_and and_true and_self Nat.zero_add Nat.le_refl Int.toNat_natCast beq_self_eq_true eq_self tops_zero tops_succ Int.natCast_nonneg List.take_nil List.drop_nil Option.map_none flat_bool one_bool cells_bool flat_int one_int cells_int flat_str one_str cells_str flat_nilp one_nilp cells_nilp flat_ptr one_ptr cells_ptr flat_nils one_nils cells_nils flat_imm one_imm cells_imm flat_wr one_wr cells_wr flat_wc one_wc cells_wc flat_func one_func cells_func flat_nilf one_nilf cells_nilf flat_map one_map cells_map flat_nilm one_nilm cells_nilm flat_iface one_iface cells_iface flat_nili one_nili cells_nili flat_rd one_rd cells_rd flat_emp one_emp cells_emp flat_byteV one_byteV cells_byteV flat_agg cells_agg one_agg B_size B_list B_ext B_toList B_app List.take_length Int.le_refl
/-- A tree; kp and kk: what its slices are where they have nothing (nil, or empty). -/
inductive Tr where
  | mk (name : List UInt8) (kp : Nat) (props : List (List UInt8 × List UInt8)) (kk : Nat) (kids : List Tr)
def Tr.name : Tr → List UInt8
  | .mk n _ _ _ _ => n
def Tr.kp : Tr → Nat
  | .mk _ k _ _ _ => k
def Tr.props : Tr → List (List UInt8 × List UInt8)
  | .mk _ _ p _ _ => p
def Tr.kk : Tr → Nat
  | .mk _ _ _ k _ => k
def Tr.kids : Tr → List Tr
  | .mk _ _ _ _ ks => ks
def propV (p : List UInt8 × List UInt8) : AV := .agg [.str (B p.1), .str (B p.2)]
theorem propV_cells (p : List UInt8 × List UInt8) : (propV p).cells = [.str (B p.1), .str (B p.2)] := rfl
mutual
def Tr.cells : Tr → List AV
  | .mk n kp ps kk ks => [.str (B n), slA kp 2 (ps.map propV), slA kk 3 (Tr.Vs ks)]
def Tr.Vs : List Tr → List AV
  | [] => []
  | t :: ts => .agg t.cells :: Tr.Vs ts
end
def Tr.V (t : Tr) : AV := .agg t.cells
theorem Tr.Vs_is : ∀ ks : List Tr, Tr.Vs ks = ks.map Tr.V
  | [] => by rw [Tr.Vs]; rfl
  | t :: ts => by rw [Tr.Vs, Tr.Vs_is ts]; rfl
theorem Tr.cells_is (t : Tr) : t.cells = [.str (B t.name), slA t.kp 2 (t.props.map propV), slA t.kk 3 (t.kids.map Tr.V)] := by
  cases t with
  | mk n kp ps kk ks => rw [Tr.cells, Tr.Vs_is]; rfl
theorem Tr.V_is (t : Tr) : t.V = .agg [.str (B t.name), slA t.kp 2 (t.props.map propV), slA t.kk 3 (t.kids.map Tr.V)] := by rw [Tr.V, Tr.cells_is]
theorem Tr.V_cells (t : Tr) : t.V.cells = [.str (B t.name), slA t.kp 2 (t.props.map propV), slA t.kk 3 (t.kids.map Tr.V)] := by rw [Tr.V_is]; rfl
theorem props_u (n : Nat) (ps : List (List UInt8 × List UInt8)) : AllC n (ps.map propV) := uc_map n ps (fun p => by rw [propV_cells]; simp only [u_top, u_bool, u_int, u_str, u_nilp, u_nils, u_nilf, u_nilm, u_nili, u_emp, u_byteV, u_ptr, u_wr, u_wc, u_agg, u_tup, u_rd, u_imm, u_func, u_nil, u_cons, u_app, uc_nil, uc_cons, uc_app, u_bytes, uc_bytes, u_ints, uc_ints, cells_bool, cells_int, cells_str, cells_agg, cells_ptr, cells_nils, cells_imm, cells_wr, cells_wc, cells_nilp, cells_nilf, cells_nilm, cells_rd, cells_emp, cells_byteV, cells_func, and_self, and_true, true_and, u_slA, uc_strs, cells_slA, strV_is])
mutual
theorem Tr.cu (n : Nat) : ∀ t : Tr, AllU n t.cells
  | .mk nm kp ps kk ks => by
    rw [Tr.cells]
    simp only [u_cons, u_nil, u_str, u_slA, and_true, true_and]
    exact ⟨props_u n ps, Tr.csu n ks⟩
theorem Tr.csu (n : Nat) : ∀ ks : List Tr, AllC n (Tr.Vs ks)
  | [] => by rw [Tr.Vs, uc_nil]; trivial
  | t :: ts => by
    rw [Tr.Vs, uc_cons]
    exact ⟨Tr.cu n t, Tr.csu n ts⟩
end
theorem Tr.V_u (n : Nat) (t : Tr) : t.V.under n := by rw [Tr.V, u_agg]; exact Tr.cu n t
theorem kids_u (n : Nat) (t : Tr) : AllC n (t.kids.map Tr.V) := by
  have := Tr.cu n t
  rw [Tr.cells_is] at this
  simp only [u_cons, u_nil, u_str, u_slA, and_true, true_and] at this
  exact this.2
def tr0 : Tr := .mk [] 0 [] 0 []
theorem tr_at {ls : List Tr} {i : Nat} (h : i < ls.length) : (ls.map Tr.V)[i]? = some (Tr.V (ls.getD i tr0)) := by
  rw [List.getElem?_map, List.getD_eq_getElem?_getD, List.getElem?_eq_getElem h]
  rfl
theorem prop_at {ls : List (List UInt8 × List UInt8)} {i : Nat} (h : i < ls.length) : (ls.map propV)[i]? = some (propV (ls.getD i ([], []))) := by
  rw [List.getElem?_map, List.getD_eq_getElem?_getD, List.getElem?_eq_getElem h]
  rfl
/-- Sizes that can be. -/
inductive TrOk : Tr → Prop
  | mk (name : List UInt8) (kp : Nat) (props : List (List UInt8 × List UInt8)) (kk : Nat) (kids : List Tr) : name.length ≤ 9223372036854775807 → props.length ≤ 9223372036854775807 → (∀ p ∈ props, p.1.length ≤ 9223372036854775807 ∧ p.2.length ≤ 9223372036854775807) → kids.length ≤ 9223372036854775807 → (∀ k ∈ kids, TrOk k) → TrOk (.mk name kp props kk kids)
theorem TrOk.n {t : Tr} (h : TrOk t) : t.name.length ≤ 9223372036854775807 := by cases h; assumption
theorem TrOk.p {t : Tr} (h : TrOk t) : t.props.length ≤ 9223372036854775807 := by cases h; assumption
theorem TrOk.k {t : Tr} (h : TrOk t) : t.kids.length ≤ 9223372036854775807 := by cases h; assumption
theorem TrOk.ps {t : Tr} (h : TrOk t) : ∀ p ∈ t.props, p.1.length ≤ 9223372036854775807 ∧ p.2.length ≤ 9223372036854775807 := by cases h; assumption
theorem TrOk.ks {t : Tr} (h : TrOk t) : ∀ k ∈ t.kids, TrOk k := by cases h; assumption
theorem tr_mem {l : List Tr} {i : Nat} (h : i < l.length) : l.getD i tr0 ∈ l := by
  rw [List.getD_eq_getElem?_getD, List.getElem?_eq_getElem h]
  exact List.getElem_mem _
def trRow (t : Tr) : AObj := .row 25 0 [.str (B t.name), slA t.kp 2 (t.props.map propV), slA t.kk 3 (t.kids.map Tr.V)]
theorem trRow_is (t : Tr) : trRow t = .row 25 0 [.str (B t.name), slA t.kp 2 (t.props.map propV), slA t.kk 3 (t.kids.map Tr.V)] := rfl
/-! ### how big it is -/
def wI (n : Int) : Int := IntKind.wrap .i64 n
def mxI (a b : Int) : Int := if a < b then b else a
def cstep (f : Tr → Int × Int × Int) (a : Int × Int × Int) (k : Tr) : Int × Int × Int := (wI (a.1 + (f k).1), wI (a.2.1 + (f k).2.1), mxI a.2.2 (f k).2.2)
def tcount : Nat → Tr → Int × Int × Int
  | 0, _ => (0, 0, 0)
  | l + 1, t => ((t.kids.foldl (cstep (tcount l)) (1, (t.props.length : Int), 0)).1, (t.kids.foldl (cstep (tcount l)) (1, (t.props.length : Int), 0)).2.1, wI ((t.kids.foldl (cstep (tcount l)) (1, (t.props.length : Int), 0)).2.2 + 1))
theorem foldl_step {α β : Type} (f : β → α → β) (b : β) (d : α) {l : List α} {i : Nat} (h : i < l.length) : (l.take (i + 1)).foldl f b = f ((l.take i).foldl f b) (l.getD i d) := by
  rw [List.take_add_one, List.getElem?_eq_getElem h, List.foldl_append, List.getD_eq_getElem?_getD, List.getElem?_eq_getElem h]
  rfl
theorem tcount_a : ∀ (l : Nat) (t : Tr) (H : AHeap) (K : AV → AHeap → Prop), l ≤ 100 → TrOk t → K (.tup [.int .i64 (tcount l t).1, .int .i64 (tcount l t).2.1, .int .i64 (tcount l t).2.2]) H → (ACalls Tryd.prog) 77 [t.V, .int .i64 (l : Int)] H K
  | 0, t, H, K, hl, ho, h => by
    refine acalls_go mo t77 (fun hs hu => ?_)
    rw [tcount] at h
    simp only [c77, Tr.V_is, Int.ofNat_zero, Int.natCast_zero, go_sem, Nat.reduceLeDiff, Nat.reduceAdd, Nat.reduceSub, Nat.reduceMul, Nat.reduceLT, Int.reduceLT, Int.reduceLE, Int.reduceAdd, Int.reduceSub, Int.reduceMul, Int.reduceToNat, Int.reduceNeg, Int.reduceEq, Nat.reducePow, Int.reducePow, Nat.reduceEqDiff, decide_true, decide_false, reduceIte, reduceCtorEq, Int.reduceBEq, Int.reduceBNe, bne_self_eq_false, Int.cast_ofNat_Int, Bool.not_true, Bool.not_false, IntKind.bits]
    exact aret_u hs (h)
  | l + 1, t, H, K, hl, ho, h => by
    refine acalls_go mo t77 (fun hs hu => ?_)
    have ih := tcount_a l
    rw [tcount] at h
    have hkl := ho.k
    simp only [c77, Tr.V_is, go_sem, Nat.reduceLeDiff, Nat.reduceAdd, Nat.reduceSub, Nat.reduceMul, Nat.reduceLT, Int.reduceLT, Int.reduceLE, Int.reduceAdd, Int.reduceSub, Int.reduceMul, Int.reduceToNat, Int.reduceNeg, Int.reduceEq, Nat.reducePow, Int.reducePow, Nat.reduceEqDiff, decide_true, decide_false, reduceIte, reduceCtorEq, Int.reduceBEq, Int.reduceBNe, bne_self_eq_false, Int.cast_ofNat_Int, Bool.not_true, Bool.not_false, IntKind.bits]
    refine stp0 ?_
    rw [← hp_nil (H := hp H _)]
    refine go_loopS mono (σ := AHeap × Nat) (fun z => [(7, .int .i64 ((t.kids.take z.2).foldl (cstep (tcount l)) (1, (t.props.length : Int), 0)).1), (8, .int .i64 ((t.kids.take z.2).foldl (cstep (tcount l)) (1, (t.props.length : Int), 0)).2.1), (9, .int .i64 ((t.kids.take z.2).foldl (cstep (tcount l)) (1, (t.props.length : Int), 0)).2.2), (23, .int .i64 (z.2 : Int))]) (fun z => hp z.1 []) (fun z => Past H z.1 ∧ z.2 ≤ t.kids.length) (fun z => t.kids.length - z.2) (hp H [trRow t], 0) ?_ rfl ⟨past_hp past_refl _, Nat.zero_le _⟩ (fun z hz J hJ => ?_)
    · rw [List.take_zero, List.foldl_nil]
      exact fgt
    obtain ⟨G, i⟩ := z
    obtain ⟨hG, hil⟩ := hz
    simp only at hG hil
    simp only [blurR_nil, blurR_some, blurR_none, blurC_region, blurC_regionN, blurC_fregion, blurT_nil, blurT_cons, blurC_seq, blurC_both, blurC_cond, blurC_block, blurC_loop, blurC_skip, blurC_exit, blurC_ret, tellS_nil, tellS_cons, List.set_cons_zero, List.set_cons_succ, tops_zero, tops_succ]
    by_cases h1 : i < t.kids.length
    · have ha := tr_at h1
      have hok := ho.ks _ (tr_mem h1)
      have hst := foldl_step (cstep (tcount l)) (1, (t.props.length : Int), 0) tr0 h1
      have hJ2 := fun (G2 : AHeap) (p1 : Past H G2) a' => hJ (G2, i + 1) a' ⟨p1, h1⟩ (by show t.kids.length - (i + 1) < t.kids.length - i; omega)
      clear hJ
      simp only [hst] at hJ2
      generalize t.kids.getD i tr0 = k at *
      generalize (t.kids.take i).foldl (cstep (tcount l)) (1, (t.props.length : Int), 0) = acc at *
      have hVc := Tr.V_cells k
      have hVi := Tr.V_is k
      simp (maxSteps := 4000000) (disch := (first | omega | (simp only [set_next, List.length_append, List.length_cons, List.length_nil, List.length_take, List.length_drop, List.length_map, List.length_set, List.length_replicate]; omega) | (simp only [set_next, ne_eq, reduceCtorEq, not_false_eq_true]))) only [ha, hVc, List.map_map, go_sem, Nat.reduceLeDiff, Nat.reduceAdd, Nat.reduceSub, Nat.reduceMul, Nat.reduceLT, Int.reduceLT, Int.reduceLE, Int.reduceAdd, Int.reduceSub, Int.reduceMul, Int.reduceToNat, Int.reduceNeg, Int.reduceEq, Nat.reducePow, Int.reducePow, Nat.reduceEqDiff, decide_true, decide_false, reduceIte, reduceCtorEq, Int.reduceBEq, Int.reduceBNe, bne_self_eq_false, Int.cast_ofNat_Int, Bool.not_true, Bool.not_false, IntKind.bits, w_nat, w_lit, w_add, w_addl, w_ladd, w_sub, w_subl, w_lsub, w_mul, w_mull, w_lmul, t_div, t_divl, t_mod, t_modl, i_lt, i_ltl, i_llt, i_le, i_lel, i_lle, i_eq, i_eql, i_leq, Nat.zero_le, d_beq, d_bne, d_bytes, byte_at, Int.toNat_natCast, toNat_lit, decide_eq_true, decide_eq_false, if_pos, if_neg, slA_len, slA_idx, slA_cells, flat_slA, one_slA, cells_slA, map_mid, strV_is, hp_get1, hp_get2, hp_get3, hp_set1, hp_set2, hp_set3, hp_old, hp_sold, set_got, set_set, set_next, set_other, bytesL, bytes_all, List.length_map, aapp_nils, aapp_wr, List.flatMap_cons, List.flatMap_nil, Nat.mul_one]
      rw [← hVi]
      refine ih _ _ _ (by omega) hok ?_
      unfold cstep at hJ2
      generalize tcount l k = c at *
      have hb : (if acc.2.2 < c.2.2 then AV.int .i64 c.2.2 else AV.int .i64 acc.2.2) = .int .i64 (mxI acc.2.2 c.2.2) := by unfold mxI; split <;> rfl
      have hb2 : (if acc.2.2 < c.2.2 then c.2.2 else acc.2.2) = mxI acc.2.2 c.2.2 := rfl
      refine stp (And.intro hb hb2) ?_
      rw [← hp_nil (H := hp G _)]
      exact hJ2 _ (past_hp hG _) _ fgt
    · rw [List.take_of_length_le (by omega)]
      generalize t.kids.foldl (cstep (tcount l)) (1, (t.props.length : Int), 0) = acc at *
      simp only [wI] at h
      refine stp0 ?_
      exact aret_past (past_hp hG _) hs (by simp only [u_top, u_bool, u_int, u_str, u_nilp, u_nils, u_nilf, u_nilm, u_nili, u_emp, u_byteV, u_ptr, u_wr, u_wc, u_agg, u_tup, u_rd, u_imm, u_func, u_nil, u_cons, u_app, uc_nil, uc_cons, uc_app, u_bytes, uc_bytes, u_ints, uc_ints, cells_bool, cells_int, cells_str, cells_agg, cells_ptr, cells_nils, cells_imm, cells_wr, cells_wc, cells_nilp, cells_nilf, cells_nilm, cells_rd, cells_emp, cells_byteV, cells_func, and_self, and_true, true_and, u_slA, uc_strs, cells_slA, strV_is]) h
/-- From (v, H) to (v', G): a slice's row has grown, and all else is as it was. -/
structure Grew (n0 : Nat) (v : AV) (H : AHeap) (v' : AV) (G : AHeap) : Prop where
  next : H.next ≤ G.next
  old : ∀ i, i < n0 → G.get i = H.get i
  other : ∀ i o, H.get i = some o → (∀ gen off len sz, v ≠ .wr i gen off len sz) → G.get i = some o
  id : ∀ j, j < H.next → (∀ gen off len sz, v ≠ .wr j gen off len sz) → ∀ gen off len sz, v' ≠ .wr j gen off len sz
/-- A call is handed a slice of one's own that nobody writes to any more. -/
theorem acalls_shut {P : Program} {f : Nat} {pre post : List AV} {y z : AV} {H H2 : AHeap} {K : AV → AHeap → Prop} (hS : Shut H y H2 z) (h : (ACalls P) f (pre ++ z :: post) H2 K) : (ACalls P) f (pre ++ y :: post) H K := by
  intro g w vs hSim hR o act next Qc hn
  obtain ⟨u, hu, hrep⟩ := Reps.get hR (i := pre.length) (y := y) (by simp)
  obtain ⟨g', hE, hS', hr'⟩ := hS.sound hSim hrep
  have hR2 := Reps.replace hE hR (fun v hv => by rw [hu] at hv; obtain rfl := Option.some.inj hv; exact hr')
  exact h g' w vs hS' hR2 o act next Qc (fun y' H' g2 w2 v hk hE2 => hn y' H' g2 w2 v hk (hE.trans hE2))
section
variable {H G G2 : AHeap} {K : AV → AHeap → Prop} {y v v' v2 : AV} {n0 : Nat}
theorem grew_refl : Grew n0 v H v H := ⟨Nat.le_refl _, fun _ _ => rfl, fun _ _ h _ => h, fun _ _ h => h⟩
theorem aret_full (hn : H.next ≤ G.next) (hG : G.within G.next) (hy : y.under G.next) (hk : K y G) : ARet H.next K y G :=
  ⟨G, y, G.next, .refl _ _, hn, hy, hG, by rw [trunc_self]; exact hk⟩
theorem slat_ne2 {e sz j e' g : Nat} {xs cs : List AV} (h : SlAt n0 G e sz v xs) (hg : G.get j = some (.row e' g cs)) (hne : e' ≠ e) : ∀ gen off len sz, v ≠ .wr j gen off len sz := by
  intro gen off len sz' hv
  rcases h with ⟨rfl, rfl⟩ | ⟨id, gen', rfl, hid, hg'⟩
  · cases hv
  · cases hv
    rw [hg] at hg'
    cases hg'
    exact hne rfl
end
mutual
/-- A tree without what its slices are where they have nothing. -/
def Tr.strip : Tr → Tr
  | .mk n _ ps _ ks => .mk n 0 ps 0 (Tr.strips ks)
def Tr.strips : List Tr → List Tr
  | [] => []
  | t :: ts => t.strip :: Tr.strips ts
end
theorem Tr.strips_is : ∀ ks : List Tr, Tr.strips ks = ks.map Tr.strip
  | [] => by rw [Tr.strips]; rfl
  | t :: ts => by rw [Tr.strips, Tr.strips_is ts]; rfl
theorem Tr.strip_is (n : List UInt8) (kp : Nat) (ps : List (List UInt8 × List UInt8)) (kk : Nat) (ks : List Tr) : (Tr.mk n kp ps kk ks).strip = .mk n 0 ps 0 (ks.map Tr.strip) := by rw [Tr.strip, Tr.strips_is]
theorem Tr.strip_eta (t : Tr) : t.strip = .mk t.name 0 t.props 0 (t.kids.map Tr.strip) := by
  cases t with
  | mk n kp ps kk ks => exact Tr.strip_is n kp ps kk ks
theorem Tr.strip_name (t : Tr) : t.strip.name = t.name := by rw [Tr.strip_eta]; rfl
theorem Tr.strip_props (t : Tr) : t.strip.props = t.props := by rw [Tr.strip_eta]; rfl
theorem Tr.strip_kids (t : Tr) : t.strip.kids = t.kids.map Tr.strip := by rw [Tr.strip_eta]; rfl
def rowId : AV → List Nat
  | .wr id _ _ _ _ => [id]
  | _ => []
/-- Cells of a node in memory, the tree that they are, and the rows that it has. -/
inductive MT (G : AHeap) : List AV → Tr → List Nat → Prop
  | mk (name : List UInt8) (vp vk : AV) (ps : List (List UInt8 × List UInt8)) (css : List (List AV)) (ks : List Tr) (fps : List (List Nat)) :
    SlAt 0 G 62 2 vp (ps.map propV) → SlAt 0 G 25 3 vk (css.map AV.agg) → css.length = ks.length → fps.length = ks.length →
    (∀ i, i < ks.length → MT G (css.getD i []) (ks.getD i tr0) (fps.getD i [])) → MT G [.str (B name), vp, vk] (.mk name 0 ps 0 ks) (rowId vp ++ rowId vk ++ fps.flatten)
theorem slat_same {n0 : Nat} {G G' : AHeap} {e sz : Nat} {v : AV} {xs : List AV} (h : SlAt n0 G e sz v xs) (hg : ∀ i ∈ rowId v, G'.get i = G.get i) : SlAt n0 G' e sz v xs := by
  rcases h with q | ⟨id, gen, rfl, q2, q3⟩
  · exact .inl q
  · exact .inr ⟨id, gen, rfl, q2, (hg id (by simp [rowId])).trans q3⟩
theorem mem_fps {fps : List (List Nat)} {i j : Nat} (h : i ∈ fps.getD j []) : i ∈ fps.flatten := by
  rw [List.getD_eq_getElem?_getD] at h
  cases hj : fps[j]? with
  | none => rw [hj] at h; cases h
  | some f =>
    rw [hj] at h
    exact List.mem_flatten.2 ⟨f, List.mem_of_getElem? hj, h⟩
theorem mt_same {G G' : AHeap} {cs : List AV} {t : Tr} {F : List Nat} (h : MT G cs t F) (hg : ∀ i ∈ F, G'.get i = G.get i) : MT G' cs t F := by
  induction h with
  | mk name vp vk ps css ks fps h1 h2 h3 h4 _ ih =>
    refine .mk name vp vk ps css ks fps (slat_same h1 (fun i hi => hg i (by simp [hi]))) (slat_same h2 (fun i hi => hg i (by simp [hi]))) h3 h4 (fun i hi => ih i hi (fun j hj => hg j ?_))
    simp only [List.mem_append]
    exact .inr (mem_fps hj)
theorem rowId_lt {n0 : Nat} {G : AHeap} {e sz : Nat} {v : AV} {xs : List AV} (h : SlAt n0 G e sz v xs) {i : Nat} (hi : i ∈ rowId v) : i < G.next ∧ n0 ≤ i := by
  rcases h with ⟨rfl, _⟩ | ⟨id, gen, rfl, q2, q3⟩
  · cases hi
  · rw [List.mem_singleton.1 (show i ∈ [id] from hi)]
    exact ⟨G.lt q3, q2⟩
theorem mt_lt {G : AHeap} {cs : List AV} {t : Tr} {F : List Nat} (h : MT G cs t F) : ∀ i ∈ F, i < G.next := by
  induction h with
  | mk name vp vk ps css ks fps h1 h2 h3 h4 _ ih =>
    intro i hi
    rcases List.mem_append.1 hi with q | q
    · rcases List.mem_append.1 q with q | q
      · exact (rowId_lt h1 q).1
      · exact (rowId_lt h2 q).1
    · obtain ⟨f, hf, hif⟩ := List.mem_flatten.1 q
      obtain ⟨j, hj, rfl⟩ := List.getElem_of_mem hf
      exact ih j (by omega) i (by rw [List.getD_eq_getElem?_getD, List.getElem?_eq_getElem hj]; exact hif)
theorem slat_one2 {n0 : Nat} {G : AHeap} {e sz : Nat} {v : AV} {xs : List AV} (h : SlAt n0 G e sz v xs) : v.flat = true ∧ v.cells = [v] ∧ v.one = true ∧ v.under G.next := by
  rcases h with ⟨rfl, _⟩ | ⟨id, gen, rfl, _, h3⟩
  · exact ⟨rfl, rfl, rfl, .nils⟩
  · exact ⟨rfl, rfl, rfl, .wr _ _ _ _ _ (G.lt h3)⟩
theorem mt_cs {G : AHeap} {cs : List AV} {t : Tr} {F : List Nat} (h : MT G cs t F) : ∃ vp vk, cs = [.str (B t.name), vp, vk] ∧ (vp.flat = true ∧ vp.cells = [vp] ∧ vp.one = true ∧ vp.under G.next) ∧ (vk.flat = true ∧ vk.cells = [vk] ∧ vk.one = true ∧ vk.under G.next) := by
  cases h with
  | mk name vp vk ps css ks fps h1 h2 h3 h4 h5 => exact ⟨vp, vk, rfl, slat_one2 h1, slat_one2 h2⟩
/-- A heap of which parts are shut, whatever else there is. -/
def HShut (G G' : AHeap) : Prop := ∀ y, Shut G y G' y
theorem hshut_refl (G : AHeap) : HShut G G := fun y => .refl _ _
theorem hshut_trans {G G1 G2 : AHeap} (h : HShut G G1) (h2 : HShut G1 G2) : HShut G G2 := fun y => .trans _ _ _ _ _ _ (h y) (h2 y)
theorem slat_shut3 {n0 : Nat} {G : AHeap} {e sz : Nat} {v : AV} {xs : List AV} (h : SlAt n0 G e sz v xs) (hx : ∀ x ∈ xs, x.cells.length = sz) : ∃ G2 k, Shut G v G2 (slA k sz xs) ∧ G2.next = G.next ∧ ∀ i, i ∉ rowId v → G2.get i = G.get i := by
  rcases h with ⟨rfl, rfl⟩ | ⟨id, gen, rfl, hid, hg⟩
  · exact ⟨G, 0, .refl _ _, rfl, fun _ _ => rfl⟩
  · refine ⟨G.kill id, 2, ?_, rfl, fun i hi => kill_get_ne _ _ _ (fun e => hi (by rw [e]; exact List.mem_singleton.2 rfl))⟩
    have : slA 2 sz xs = .imm sz xs := by cases xs <;> rfl
    rw [this]
    refine .row _ _ _ _ _ _ e (xs.flatMap AV.cells) xs hg hx rfl ?_
    rw [List.drop_zero, List.take_of_length_le]
    rw [flat_length _ _ hx]
    exact Nat.le_refl _
theorem props_len (ps : List (List UInt8 × List UInt8)) : ∀ x ∈ ps.map propV, x.cells.length = 2 := fun x hx => by
  obtain ⟨p, _, rfl⟩ := List.mem_map.1 hx
  rfl
theorem trs_len (ks : List Tr) : ∀ x ∈ ks.map Tr.V, x.cells.length = 3 := fun x hx => by
  obtain ⟨t, _, rfl⟩ := List.mem_map.1 hx
  rw [Tr.V_cells]
  rfl
theorem agg_flat (css : List (List AV)) : (css.map AV.agg).flatMap AV.cells = css.flatten := by
  rw [List.flatMap_map]
  exact List.flatMap_id
theorem nodup_mid {A B C : List Nat} {k : List Nat} (h : (k ++ (A ++ (B ++ C))).Nodup) : B.Nodup ∧ (∀ i ∈ B, i ∉ k) ∧ (∀ i ∈ B, i ∉ A) ∧ (∀ i ∈ B, i ∉ C) := by
  rw [List.nodup_append] at h
  obtain ⟨_, h2, h3⟩ := h
  rw [List.nodup_append] at h2
  obtain ⟨_, h4, h5⟩ := h2
  rw [List.nodup_append] at h4
  obtain ⟨h6, _, h7⟩ := h4
  refine ⟨h6, fun i hi q => h3 i q i (by simp [hi]) rfl, fun i hi q => h5 i q i (by simp [hi]) rfl, fun i hi q => h7 i hi i q rfl⟩
theorem take_getD {α : Type} (d : α) {l : List α} {j : Nat} (h : j < l.length) : l.take (j + 1) = l.take j ++ [l.getD j d] ∧ l.drop j = l.getD j d :: l.drop (j + 1) := by
  rw [List.take_add_one, List.getElem?_eq_getElem h, List.getD_eq_getElem?_getD, List.getElem?_eq_getElem h, List.drop_eq_getElem_cons h]
  exact ⟨rfl, rfl⟩
theorem kids_freeze : ∀ (n : Nat) (ks : List Tr), SizeOf.sizeOf ks ≤ n → ∀ (G : AHeap) (vk : AV) (css : List (List AV)) (fps : List (List Nat)), SlAt 0 G 25 3 vk (css.map AV.agg) → css.length = ks.length → fps.length = ks.length →
    (∀ i, i < ks.length → MT G (css.getD i []) (ks.getD i tr0) (fps.getD i [])) → (rowId vk ++ fps.flatten).Nodup →
    ∃ (G2 : AHeap) (k2 : Nat) (ks2 : List Tr), Shut G vk G2 (slA k2 3 (ks2.map Tr.V)) ∧ ks2.map Tr.strip = ks ∧ G2.next = G.next ∧ ∀ i, i ∉ rowId vk ++ fps.flatten → G2.get i = G.get i
  | 0, ks, hn, G, vk, css, fps, h1, h2, h3, h4, hnd => by
    exfalso
    cases ks <;> simp at hn <;> omega
  | n + 1, ks, hn, G, vk, css, fps, h1, h2, h3, h4, hnd => by
    rcases h1 with ⟨rfl, he⟩ | ⟨idk, genk, rfl, hidk, hgk⟩
    · have hc : css = [] := by simpa using he
      have hk : ks = [] := List.eq_nil_of_length_eq_zero (by rw [← h2, hc]; rfl)
      exact ⟨G, 0, [], .refl _ _, by rw [hk]; rfl, rfl, fun _ _ => rfl⟩
    · rw [List.length_map, agg_flat] at *
      have hrow : rowId (.wr idk genk 0 css.length 3) = [idk] := rfl
      rw [hrow] at hnd
      have key : ∀ j, j ≤ ks.length → ∃ (Gj : AHeap) (ks2 : List Tr), HShut G Gj ∧ Gj.next = G.next ∧ ks2.length = j ∧ ks2.map Tr.strip = ks.take j ∧ Gj.get idk = some (.row 25 genk ((ks2.map Tr.V).flatMap AV.cells ++ (css.drop j).flatten)) ∧ ∀ i, i ≠ idk → i ∉ (fps.take j).flatten → Gj.get i = G.get i := by
        intro j
        induction j with
        | zero => exact fun _ => ⟨G, [], hshut_refl G, rfl, rfl, rfl, by rw [List.drop_zero]; exact hgk, fun _ _ _ => rfl⟩
        | succ j ihj =>
          intro hj
          obtain ⟨Gj, ks2, q1, q2, q3, q4, q5, q6⟩ := ihj (by omega)
          obtain ⟨f1, f2⟩ := take_getD ([] : List Nat) (l := fps) (j := j) (by omega)
          obtain ⟨c1, c2⟩ := take_getD ([] : List AV) (l := css) (j := j) (by omega)
          obtain ⟨t1, t2⟩ := take_getD tr0 (l := ks) (j := j) (by omega)
          have hfl : fps.flatten = (fps.take j).flatten ++ ((fps.getD j []) ++ (fps.drop (j + 1)).flatten) := by
            conv => lhs; rw [← List.take_append_drop j fps, List.flatten_append, f2, List.flatten_cons]
          rw [hfl] at hnd
          obtain ⟨n1, n2, n3, n4⟩ := nodup_mid hnd
          have hm := h4 j (by omega)
          have htm : ks.getD j tr0 ∈ ks := tr_mem (by omega)
          have hsz : SizeOf.sizeOf (ks.getD j tr0) < SizeOf.sizeOf ks := List.sizeOf_lt_of_mem htm
          have hmj : MT Gj (css.getD j []) (ks.getD j tr0) (fps.getD j []) := mt_same hm (fun i hi => q6 i (fun e => n2 i hi (by rw [e]; exact List.mem_singleton.2 rfl)) (n3 i hi))
          rw [c2, List.flatten_cons] at q5
          have hnext : fps.take (j + 1) = fps.take j ++ [fps.getD j []] := f1
          generalize fps.getD j [] = f at *
          generalize css.getD j [] = c at *
          generalize ks.getD j tr0 = t at *
          cases hmj with
          | mk name vp vk ps cssj ksj fpsj m1 m2 m3 m4 m5 =>
            have hsz2 : SizeOf.sizeOf ksj < SizeOf.sizeOf (Tr.mk name 0 ps 0 ksj) := by simp; omega
            obtain ⟨Gp, kp, s1, s2, s3⟩ := slat_shut3 m1 (props_len ps)
            have hnk : idk ∉ rowId vp := fun q => n2 idk (by simp [q]) (List.mem_singleton.2 rfl)
            have hnk2 : idk ∉ rowId vk ++ fpsj.flatten := fun q => n2 idk (by simp only [List.mem_append] at q ⊢; rcases q with q | q; exact .inl (.inr q); exact .inr q) (List.mem_singleton.2 rfl)
            have g1 : Gj.get idk = some (.row 25 genk (((ks2.map Tr.V).flatMap AV.cells ++ [.str (B name)]) ++ vp :: (vk :: (css.drop (j + 1)).flatten))) := by rw [q5]; simp
            have g2 : Gp.get idk = some (.row 25 genk (((ks2.map Tr.V).flatMap AV.cells ++ [.str (B name)]) ++ vp :: (vk :: (css.drop (j + 1)).flatten))) := (s3 idk hnk).trans g1
            have k1 : HShut Gj (Gp.set idk (.row 25 genk (((ks2.map Tr.V).flatMap AV.cells ++ [.str (B name)]) ++ slA kp 2 (ps.map propV) :: (vk :: (css.drop (j + 1)).flatten)))) := fun y => .cell _ _ _ _ _ _ _ _ _ _ g1 s1 g2
            generalize hGa : Gp.set idk (.row 25 genk (((ks2.map Tr.V).flatMap AV.cells ++ [.str (B name)]) ++ slA kp 2 (ps.map propV) :: (vk :: (css.drop (j + 1)).flatten))) = Ga at *
            have hna : Ga.next = Gj.next := by rw [← hGa]; exact s2
            have hao : ∀ i, i ≠ idk → i ∉ rowId vp → Ga.get i = Gj.get i := fun i h1 h2 => by rw [← hGa, set_other h1]; exact s3 i h2
            have hga : Ga.get idk = some (.row 25 genk (((ks2.map Tr.V).flatMap AV.cells ++ [.str (B name), slA kp 2 (ps.map propV)]) ++ vk :: (css.drop (j + 1)).flatten)) := by rw [← hGa, set_got (Gp.lt g2)]; simp
            have hnd2 : (rowId vk ++ fpsj.flatten).Nodup := by
              rw [List.append_assoc] at n1
              exact (List.nodup_append.1 n1).2.1
            have hdis : ∀ i, i ∈ rowId vk ++ fpsj.flatten → i ∉ rowId vp := fun i hi q => by
              rw [List.append_assoc] at n1
              exact (List.nodup_append.1 n1).2.2 i q i hi rfl
            obtain ⟨Gb, kq, ks3, r1, r2, r3, r4⟩ := kids_freeze n ksj (by omega) Ga vk cssj fpsj (slat_same m2 (fun i hi => hao i (fun e => hnk2 (by rw [← e]; simp [hi])) (hdis i (by simp [hi])))) m3 m4
              (fun i hi => mt_same (m5 i hi) (fun x hx => hao x (fun e => hnk2 (by rw [← e]; exact List.mem_append_right _ (mem_fps hx))) (hdis x (List.mem_append_right _ (mem_fps hx))))) hnd2
            have hgb : Gb.get idk = some (.row 25 genk (((ks2.map Tr.V).flatMap AV.cells ++ [.str (B name), slA kp 2 (ps.map propV)]) ++ vk :: (css.drop (j + 1)).flatten)) := (r4 idk hnk2).trans hga
            refine ⟨Gb.set idk (.row 25 genk (((ks2.map Tr.V).flatMap AV.cells ++ [.str (B name), slA kp 2 (ps.map propV)]) ++ slA kq 3 (ks3.map Tr.V) :: (css.drop (j + 1)).flatten)), ks2 ++ [.mk name kp ps kq ks3], hshut_trans q1 (hshut_trans k1 (fun y => .cell _ _ _ _ _ _ _ _ _ _ hga r1 hgb)), ?_, ?_, ?_, ?_, ?_⟩
            · show Gb.next = G.next
              rw [r3, hna, q2]
            · rw [List.length_append, q3]
              rfl
            · rw [List.map_append, q4, t1, List.map_cons, List.map_nil, Tr.strip_is, r2]
            · rw [set_got (Gb.lt hgb), List.map_append, List.flatMap_append]
              simp only [List.map_cons, List.map_nil, List.flatMap_cons, List.flatMap_nil, Tr.V_cells, Tr.name, Tr.kp, Tr.props, Tr.kk, Tr.kids]
              simp
            · intro i h1 h2
              rw [hnext, List.flatten_append, List.mem_append, not_or] at h2
              have h3 : i ∉ rowId vp ++ rowId vk ++ fpsj.flatten := by simpa using h2.2
              rw [List.append_assoc, List.mem_append, not_or] at h3
              rw [set_other h1, r4 i h3.2, hao i h1 h3.1]
              exact q6 i h1 h2.1
      obtain ⟨Gn, ks2, q1, q2, q3, q4, q5, q6⟩ := key ks.length (Nat.le_refl _)
      rw [← h2, List.drop_length, List.flatten_nil, List.append_nil] at q5
      rw [List.take_length] at q4
      refine ⟨Gn.kill idk, 2, ks2, .trans _ _ _ _ _ _ (q1 _) ?_, q4, q2, fun i hi => ?_⟩
      · have : slA 2 3 (ks2.map Tr.V) = .imm 3 (ks2.map Tr.V) := by cases ks2 <;> rfl
        rw [this]
        refine .row _ _ _ _ _ _ _ _ (ks2.map Tr.V) q5 (trs_len ks2) (by rw [List.length_map, q3, h2]) ?_
        rw [List.drop_zero, List.take_of_length_le]
        rw [flat_length _ _ (trs_len ks2), List.length_map, q3, h2]
        exact Nat.le_refl _
      · rw [hrow, List.mem_append, not_or] at hi
        have hne : i ≠ idk := fun e => hi.1 (by rw [e]; exact List.mem_singleton.2 rfl)
        rw [kill_get_ne _ _ _ hne]
        refine q6 i hne ?_
        rw [← h3, List.take_length]
        exact hi.2
/-- A tree in memory given away: the value that its readers have. -/
theorem mt_freeze {G : AHeap} {cs : List AV} {t : Tr} {F : List Nat} (h : MT G cs t F) (hnd : F.Nodup) : ∃ (G2 : AHeap) (t2 : Tr), Shut G (.agg cs) G2 t2.V ∧ t2.strip = t ∧ G2.next = G.next ∧ ∀ i, i ∉ F → G2.get i = G.get i := by
  cases h with
  | mk name vp vk ps css ks fps m1 m2 m3 m4 m5 =>
    rw [List.append_assoc] at hnd
    obtain ⟨_, hnd2, hdj⟩ := List.nodup_append.1 hnd
    obtain ⟨G1, kp, s1, s2, s3⟩ := slat_shut3 m1 (props_len ps)
    have hdis : ∀ i, i ∈ rowId vk ++ fps.flatten → i ∉ rowId vp := fun i hi q => hdj i q i hi rfl
    obtain ⟨G2, kq, ks3, r1, r2, r3, r4⟩ := kids_freeze _ ks (Nat.le_refl _) G1 vk css fps (slat_same m2 (fun i hi => s3 i (hdis i (by simp [hi])))) m3 m4 (fun i hi => mt_same (m5 i hi) (fun x hx => s3 x (hdis x (List.mem_append_right _ (mem_fps hx))))) hnd2
    refine ⟨G2, .mk name kp ps kq ks3, ?_, by rw [Tr.strip_is, r2], by rw [r3, s2], fun i hi => ?_⟩
    · rw [Tr.V_is]
      exact .trans _ _ _ _ _ _ (.agg _ _ [.str (B name)] [vk] _ _ s1) (.agg _ _ [.str (B name), slA kp 2 (ps.map propV)] [] _ _ r1)
    · rw [List.append_assoc, List.mem_append, not_or] at hi
      rw [r4 i hi.2, s3 i hi.1]
def c47 : ACode := 
    (.seq 
    (.region [⟨(some 1), (.s (.box 25 (.tmp 0))), none⟩, ⟨(some 2), (.s (.alloc 25 [(.str (B [])), .nils, .nils])), none⟩]) 
    (.seq 
    (.seq (.fregion [1] []) 
    (.regionN 4 [⟨(some 6), (.q (.fieldAddr 0 (.tmp 1))), none⟩, ⟨(some 7), (.q (.loadr false 1 (.tmp 6))), none⟩, ⟨(some 8), (.q (.fieldAddr 1 (.tmp 1))), none⟩, ⟨(some 9), (.q (.load false 1 (.tmp 8))), none⟩, ⟨(some 3), (.q (.move (.const .top))), none⟩, ⟨(some 10), (.s (.call 65 [(.tmp 9)])), none⟩, ⟨(some 11), (.q (.build [(.str (B [])), .nils, .nils] [(0, (1, (.tmp 7))), (1, (1, (.tmp 10)))])), none⟩, ⟨(some 3), (.s (.put 25 3 (.tmp 11))), none⟩])) 
    (.seq 
    (.seq 
    (.region [⟨(some 12), (.q (.fieldAddr 2 (.tmp 1))), none⟩, ⟨(some 13), (.q (.load false 1 (.tmp 12))), none⟩, ⟨(some 14), (.q (.len false (.tmp 13))), none⟩, ⟨(some 15), (.q (.move (.const (.int .i64 0)))), none⟩]) 
    (.block 0 
    (.loop 
    (.seq 
    (.region [⟨(some 16), (.q (.bin .lss (.tmp 15) (.tmp 14))), none⟩]) 
    (.seq 
    (.cond (.tmp 16) .skip (.exit 0)) 
    (.seq 
    (.block 1 
    (.seq 
    (.region [⟨(some 17), (.q (.idxSl 3 (.tmp 13) (.tmp 15))), none⟩, ⟨(some 18), (.q (.load true 3 (.tmp 17))), none⟩, ⟨(some 5), (.s (.alloc 25 [(.str (B [])), .nils, .nils])), none⟩, ⟨none, (.s (.store 3 (.tmp 5) (.tmp 18))), none⟩]) 
    (.seq (.fregion [5] []) 
    (.seq 
    (.region [⟨(some 19), (.q (.fieldAddr 2 (.tmp 3))), none⟩, ⟨(some 21), (.q (.loadr true 3 (.tmp 5))), none⟩]) (.both 
    (.region [⟨(some 20), (.q (.load false 1 (.tmp 19))), none⟩, ⟨(some 22), (.s (.call 47 [(.tmp 21)])), none⟩, ⟨(some 23), (.s (.lit 25 3 [(.tmp 22)])), none⟩, ⟨(some 24), (.s (.app 25 3 64 (.tmp 20) (.tmp 23))), none⟩, ⟨(some 25), (.q (.fieldAddr 2 (.tmp 3))), none⟩, ⟨none, (.s (.store 1 (.tmp 25) (.tmp 24))), none⟩]) 
    (.region [⟨(some 22), (.s (.call 47 [(.tmp 21)])), none⟩, ⟨(some 20), (.q (.load false 1 (.tmp 19))), none⟩, ⟨(some 23), (.s (.lit 25 3 [(.tmp 22)])), none⟩, ⟨(some 24), (.s (.app 25 3 64 (.tmp 20) (.tmp 23))), none⟩, ⟨(some 25), (.q (.fieldAddr 2 (.tmp 3))), none⟩, ⟨none, (.s (.store 1 (.tmp 25) (.tmp 24))), none⟩])))))) 
    (.region [⟨(some 26), (.q (.bin .add (.tmp 15) (.const (.int .i64 1)))), none⟩, ⟨(some 15), (.q (.move (.tmp 26))), none⟩]))))))) 
    (.seq 
    (.region [⟨(some 27), (.q (.load true 3 (.tmp 3))), none⟩, ⟨none, (.s (.store 3 (.tmp 2) (.tmp 27))), none⟩]) .ret))))
theorem t47 : Told Tryd.prog 47 28 c47 [(.cell 2 true 3)] := ⟨Tryd.f47, _, [2000001, 6000005, 6999999], Tryd.func47, rfl, by kernel_rfl, rfl, by kernel_rfl, by kernel_rfl⟩
def c65 : ACode := 
    (.seq 
    (.region [⟨(some 2), (.q (.move (.const .nils))), none⟩]) 
    (.seq 
    (.seq 
    (.region [⟨(some 3), (.q (.move (.tmp 0))), none⟩, ⟨(some 4), (.q (.nil .sl false (.tmp 3) (.const .nils))), none⟩]) 
    (.cond (.tmp 4) 
    (.seq 
    (.region [⟨(some 2), (.q (.move (.const .nils))), none⟩]) .ret) .skip)) 
    (.seq 
    (.region [⟨(some 5), (.s (.litw 62 2 [])), none⟩, ⟨(some 6), (.q (.move (.tmp 0))), none⟩, ⟨(some 7), (.s (.app 62 2 32 (.tmp 5) (.tmp 6))), none⟩, ⟨(some 2), (.q (.move (.tmp 7))), none⟩]) .ret)))
theorem t65 : Told Tryd.prog 65 8 c65 [(.tmp 2)] := ⟨Tryd.f65, _, [5], Tryd.func65, rfl, by kernel_rfl, rfl, by kernel_rfl, by kernel_rfl⟩
def c35 : ACode := 
    (.seq 
    (.region [⟨(some 6), (.q (.move (.const .nils))), none⟩]) 
    (.seq 
    (.region [⟨(some 8), (.q (.move (.tmp 0))), none⟩, ⟨(some 9), (.q (.move (.tmp 1))), none⟩, ⟨(some 10), (.q (.move (.tmp 2))), none⟩, ⟨(some 11), (.q (.move (.tmp 0))), none⟩, ⟨(some 12), (.q (.len false (.tmp 11))), none⟩, ⟨(some 13), (.s (.slice3l 2 (.tmp 8) (.tmp 9) (.tmp 10) (.tmp 12))), none⟩]) 
    (.seq 
    (.seq 
    (.region [⟨(some 14), (.q (.move (.tmp 1))), none⟩, ⟨(some 15), (.q (.move (.tmp 2))), none⟩, ⟨(some 16), (.q (.bin .eql (.tmp 14) (.tmp 15))), none⟩]) 
    (.cond (.tmp 16) 
    (.seq 
    (.region [⟨(some 17), (.q (.move (.tmp 0))), none⟩, ⟨(some 6), (.q (.move (.tmp 17))), none⟩]) .ret) .skip)) 
    (.seq 
    (.region [⟨(some 18), (.q (.move (.tmp 0))), none⟩, ⟨(some 19), (.q (.len false (.tmp 18))), none⟩, ⟨(some 7), (.q (.move (.tmp 19))), none⟩]) 
    (.seq 
    (.region [⟨(some 20), (.q (.move (.tmp 0))), none⟩, ⟨(some 21), (.q (.move (.tmp 1))), none⟩, ⟨(some 22), (.q (.sliceSl 2 (.tmp 20) none (some (.tmp 21)))), none⟩, ⟨(some 23), (.q (.move (.tmp 0))), none⟩, ⟨(some 24), (.q (.move (.tmp 2))), none⟩, ⟨(some 25), (.q (.sliceSl 2 (.tmp 23) (some (.tmp 24)) none)), none⟩, ⟨(some 26), (.s (.app 62 2 32 (.tmp 22) (.tmp 25))), none⟩, ⟨(some 0), (.q (.move (.tmp 26))), none⟩]) 
    (.seq 
    (.region [⟨(some 27), (.q (.move (.tmp 0))), none⟩, ⟨(some 28), (.q (.move (.tmp 0))), none⟩, ⟨(some 29), (.q (.len false (.tmp 28))), none⟩, ⟨(some 30), (.q (.move (.tmp 7))), none⟩, ⟨(some 31), (.q (.sliceSl 2 (.tmp 27) (some (.tmp 29)) (some (.tmp 30)))), none⟩, ⟨none, (.s (.clear 2 [(.str (B [])), (.str (B []))] (.tmp 31))), none⟩]) 
    (.seq 
    (.region [⟨(some 32), (.q (.move (.tmp 0))), none⟩, ⟨(some 6), (.q (.move (.tmp 32))), none⟩]) .ret)))))))
theorem t35 : Told Tryd.prog 35 33 c35 [(.tmp 6)] := ⟨Tryd.f35, _, [], Tryd.func35, rfl, by kernel_rfl, rfl, by kernel_rfl, by kernel_rfl⟩
def c44 : ACode := 
    (.seq 
    (.region [⟨(some 6), (.q (.move (.const .nils))), none⟩]) 
    (.seq 
    (.region [⟨(some 8), (.q (.move (.tmp 0))), none⟩, ⟨(some 9), (.q (.move (.tmp 1))), none⟩, ⟨(some 10), (.q (.move (.tmp 2))), none⟩, ⟨(some 11), (.q (.move (.tmp 0))), none⟩, ⟨(some 12), (.q (.len false (.tmp 11))), none⟩, ⟨(some 13), (.s (.slice3l 3 (.tmp 8) (.tmp 9) (.tmp 10) (.tmp 12))), none⟩]) 
    (.seq 
    (.seq 
    (.region [⟨(some 14), (.q (.move (.tmp 1))), none⟩, ⟨(some 15), (.q (.move (.tmp 2))), none⟩, ⟨(some 16), (.q (.bin .eql (.tmp 14) (.tmp 15))), none⟩]) 
    (.cond (.tmp 16) 
    (.seq 
    (.region [⟨(some 17), (.q (.move (.tmp 0))), none⟩, ⟨(some 6), (.q (.move (.tmp 17))), none⟩]) .ret) .skip)) 
    (.seq 
    (.region [⟨(some 18), (.q (.move (.tmp 0))), none⟩, ⟨(some 19), (.q (.len false (.tmp 18))), none⟩, ⟨(some 7), (.q (.move (.tmp 19))), none⟩]) 
    (.seq 
    (.region [⟨(some 20), (.q (.move (.tmp 0))), none⟩, ⟨(some 21), (.q (.move (.tmp 1))), none⟩, ⟨(some 22), (.q (.sliceSl 3 (.tmp 20) none (some (.tmp 21)))), none⟩, ⟨(some 23), (.q (.move (.tmp 0))), none⟩, ⟨(some 24), (.q (.move (.tmp 2))), none⟩, ⟨(some 25), (.q (.sliceSl 3 (.tmp 23) (some (.tmp 24)) none)), none⟩, ⟨(some 26), (.s (.app 25 3 64 (.tmp 22) (.tmp 25))), none⟩, ⟨(some 0), (.q (.move (.tmp 26))), none⟩]) 
    (.seq 
    (.region [⟨(some 27), (.q (.move (.tmp 0))), none⟩, ⟨(some 28), (.q (.move (.tmp 0))), none⟩, ⟨(some 29), (.q (.len false (.tmp 28))), none⟩, ⟨(some 30), (.q (.move (.tmp 7))), none⟩, ⟨(some 31), (.q (.sliceSl 3 (.tmp 27) (some (.tmp 29)) (some (.tmp 30)))), none⟩, ⟨none, (.s (.clear 3 [(.str (B [])), .nils, .nils] (.tmp 31))), none⟩]) 
    (.seq 
    (.region [⟨(some 32), (.q (.move (.tmp 0))), none⟩, ⟨(some 6), (.q (.move (.tmp 32))), none⟩]) .ret)))))))
theorem t44 : Told Tryd.prog 44 33 c44 [(.tmp 6)] := ⟨Tryd.f44, _, [], Tryd.func44, rfl, by kernel_rfl, rfl, by kernel_rfl, by kernel_rfl⟩
def c53 : ACode := 
    (.seq 
    (.region [⟨(some 4), (.s (.box 54 (.tmp 1))), none⟩, ⟨(some 6), (.q (.move (.const (.int .i64 0)))), none⟩]) 
    (.seq 
    (.seq 
    (.region [⟨(some 8), (.q (.load false 1 (.tmp 4))), none⟩, ⟨(some 9), (.q (.len false (.tmp 8))), none⟩, ⟨(some 10), (.q (.bin .eql (.tmp 9) (.const (.int .i64 0)))), none⟩]) 
    (.cond (.tmp 10) 
    (.seq 
    (.region [⟨(some 11), (.q (.move (.tmp 2))), none⟩, ⟨(some 12), (.q (.move (.tmp 0))), none⟩, ⟨(some 13), (.s (.callv (.tmp 11) [(.tmp 12)])), none⟩, ⟨(some 6), (.q (.move (.tmp 13))), none⟩]) .ret) .skip)) 
    (.seq 
    (.region [⟨(some 14), (.q (.move (.tmp 0))), none⟩, ⟨(some 15), (.q (.nonil (.tmp 14))), none⟩, ⟨(some 16), (.q (.fieldAddr 2 (.tmp 15))), none⟩, ⟨(some 17), (.q (.load false 1 (.tmp 16))), none⟩, ⟨(some 18), (.q (.mkFunc (.func 67) [] [(.tmp 4)])), none⟩, ⟨(some 19), (.s (.call 42 [(.tmp 17), (.tmp 18)])), none⟩, ⟨(some 7), (.q (.move (.tmp 19))), none⟩]) 
    (.seq 
    (.seq 
    (.region [⟨(some 20), (.q (.move (.tmp 7))), none⟩, ⟨(some 21), (.q (.bin .lss (.tmp 20) (.const (.int .i64 0)))), none⟩]) 
    (.cond (.tmp 21) 
    (.seq 
    (.region [⟨(some 6), (.q (.move (.const (.int .i64 8)))), none⟩]) .ret) .skip)) 
    (.seq 
    (.region [⟨(some 22), (.q (.move (.tmp 0))), none⟩, ⟨(some 23), (.q (.nonil (.tmp 22))), none⟩, ⟨(some 24), (.q (.fieldAddr 2 (.tmp 23))), none⟩, ⟨(some 25), (.q (.load false 1 (.tmp 24))), none⟩, ⟨(some 26), (.q (.move (.tmp 7))), none⟩, ⟨(some 27), (.q (.idxSl 3 (.tmp 25) (.tmp 26))), none⟩, ⟨(some 28), (.q (.load false 1 (.tmp 4))), none⟩, ⟨(some 29), (.q (.sliceSl 1 (.tmp 28) (some (.const (.int .i64 1))) none)), none⟩, ⟨(some 30), (.q (.move (.tmp 2))), none⟩, ⟨(some 31), (.s (.call 53 [(.tmp 27), (.tmp 29), (.tmp 30)])), none⟩, ⟨(some 6), (.q (.move (.tmp 31))), none⟩]) .ret)))))
theorem t53 : Told Tryd.prog 53 32 c53 [(.tmp 6)] := ⟨Tryd.f53, _, [], Tryd.func53, rfl, by kernel_rfl, rfl, by kernel_rfl, by kernel_rfl⟩
def c67 : ACode := 
    (.seq 
    (.region [⟨(some 2), (.s (.box 25 (.tmp 0))), none⟩, ⟨(some 3), (.q (.move (.const (.bool false)))), none⟩]) 
    (.seq 
    (.region [⟨(some 4), (.q (.fieldAddr 0 (.tmp 2))), none⟩, ⟨(some 5), (.q (.load false 1 (.tmp 4))), none⟩, ⟨(some 6), (.q (.load false 1 (.tmp 1))), none⟩, ⟨(some 7), (.q (.idxSl 1 (.tmp 6) (.const (.int .i64 0)))), none⟩, ⟨(some 8), (.q (.load false 1 (.tmp 7))), none⟩, ⟨(some 9), (.q (.bin .eql (.tmp 5) (.tmp 8))), none⟩, ⟨(some 3), (.q (.move (.tmp 9))), none⟩]) .ret))
theorem t67 : Told Tryd.prog 67 10 c67 [(.tmp 3)] := ⟨Tryd.f67, _, [], Tryd.func67, rfl, by kernel_rfl, rfl, by kernel_rfl, by kernel_rfl⟩
def c30 : ACode := 
    (.seq 
    (.region [⟨(some 3), (.s (.box 25 (.tmp 0))), none⟩, ⟨(some 6), (.s (.alloc 25 [(.str (B [])), .nils, .nils])), none⟩, ⟨(some 7), (.q (.move (.const (.int .i64 0)))), none⟩]) 
    (.seq 
    (.region [⟨(some 13), (.q (.move (.tmp 1))), none⟩, ⟨(some 14), (.s (.call 39 [(.tmp 13)])), none⟩, ⟨(some 12), (.q (.move (.tmp 14))), none⟩, ⟨(some 15), (.q (.extract 0 (.tmp 12))), none⟩, ⟨(some 16), (.q (.extract 1 (.tmp 12))), none⟩, ⟨(some 8), (.q (.move (.tmp 15))), none⟩, ⟨(some 9), (.q (.move (.tmp 16))), none⟩]) 
    (.seq 
    (.seq 
    (.region [⟨(some 17), (.q (.move (.tmp 9))), none⟩, ⟨(some 18), (.q (.un .not (.tmp 17))), none⟩]) 
    (.cond (.tmp 18) 
    (.seq 
    (.region [⟨(some 19), (.q (.build [(.str (B [])), .nils, .nils] [])), none⟩, ⟨none, (.s (.store 3 (.tmp 6) (.tmp 19))), none⟩, ⟨(some 7), (.q (.move (.const (.int .i64 8)))), none⟩]) .ret) .skip)) 
    (.seq 
    (.region [⟨(some 20), (.q (.load true 3 (.tmp 3))), none⟩, ⟨(some 21), (.s (.call 47 [(.tmp 20)])), none⟩, ⟨(some 10), (.s (.alloc 25 [(.str (B [])), .nils, .nils])), none⟩, ⟨none, (.s (.store 3 (.tmp 10) (.tmp 21))), none⟩]) 
    (.seq 
    (.seq 
    (.region [⟨(some 22), (.q (.move (.tmp 8))), none⟩, ⟨(some 23), (.q (.move (.tmp 2))), none⟩, ⟨(some 24), (.s (.call 53 [(.tmp 10), (.tmp 22), (.tmp 23)])), none⟩, ⟨(some 11), (.q (.move (.tmp 24))), none⟩]) 
    (.seq 
    (.region [⟨(some 25), (.q (.move (.tmp 11))), none⟩, ⟨(some 26), (.q (.bin .neq (.tmp 25) (.const (.int .i64 0)))), none⟩]) 
    (.cond (.tmp 26) 
    (.seq 
    (.region [⟨(some 27), (.q (.build [(.str (B [])), .nils, .nils] [])), none⟩, ⟨(some 28), (.q (.move (.tmp 11))), none⟩, ⟨none, (.s (.store 3 (.tmp 6) (.tmp 27))), none⟩, ⟨(some 7), (.q (.move (.tmp 28))), none⟩]) .ret) .skip))) 
    (.seq 
    (.region [⟨(some 29), (.q (.load true 3 (.tmp 10))), none⟩, ⟨(some 30), (.s (.call 46 [(.tmp 29)])), none⟩, ⟨(some 31), (.q (.extract 0 (.tmp 30))), none⟩, ⟨(some 32), (.q (.extract 1 (.tmp 30))), none⟩, ⟨none, (.s (.store 3 (.tmp 6) (.tmp 31))), none⟩, ⟨(some 7), (.q (.move (.tmp 32))), none⟩]) .ret))))))
theorem t30 : Told Tryd.prog 30 33 c30 [(.cell 6 true 3), (.tmp 7)] := ⟨Tryd.f30, _, [], Tryd.func30, rfl, by kernel_rfl, rfl, by kernel_rfl, by kernel_rfl⟩
def c46 : ACode := 
    (.seq 
    (.region [⟨(some 1), (.s (.box 25 (.tmp 0))), none⟩, ⟨(some 2), (.s (.alloc 25 [(.str (B [])), .nils, .nils])), none⟩, ⟨(some 3), (.q (.move (.const (.int .i64 0)))), none⟩]) 
    (.seq 
    (.region [⟨(some 8), (.q (.load true 3 (.tmp 1))), none⟩, ⟨(some 9), (.s (.call 63 [(.tmp 8)])), none⟩, ⟨(some 7), (.q (.move (.tmp 9))), none⟩, ⟨(some 10), (.q (.extract 0 (.tmp 7))), none⟩, ⟨(some 11), (.q (.extract 1 (.tmp 7))), none⟩, ⟨(some 12), (.q (.extract 2 (.tmp 7))), none⟩, ⟨(some 4), (.q (.move (.tmp 10))), none⟩, ⟨(some 5), (.q (.move (.tmp 11))), none⟩, ⟨(some 6), (.q (.move (.tmp 12))), none⟩]) 
    (.seq 
    (.block 0 
    (.seq 
    (.region [⟨(some 14), (.q (.move (.tmp 6))), none⟩, ⟨(some 15), (.q (.bin .gtr (.tmp 14) (.const (.int .i64 8)))), none⟩, ⟨(some 13), (.q (.move (.tmp 15))), none⟩]) 
    (.cond (.tmp 13) 
    (.seq 
    (.region [⟨(some 16), (.q (.build [(.str (B [])), .nils, .nils] [])), none⟩, ⟨none, (.s (.store 3 (.tmp 2) (.tmp 16))), none⟩, ⟨(some 3), (.q (.move (.const (.int .i64 13)))), none⟩]) .ret) 
    (.seq 
    (.region [⟨(some 18), (.q (.load true 3 (.tmp 1))), none⟩, ⟨(some 19), (.s (.call 64 [(.tmp 18)])), none⟩, ⟨(some 20), (.q (.un .not (.tmp 19))), none⟩, ⟨(some 17), (.q (.move (.tmp 20))), none⟩]) 
    (.cond (.tmp 17) 
    (.seq 
    (.region [⟨(some 21), (.q (.build [(.str (B [])), .nils, .nils] [])), none⟩, ⟨none, (.s (.store 3 (.tmp 2) (.tmp 21))), none⟩, ⟨(some 3), (.q (.move (.const (.int .i64 7)))), none⟩]) .ret) .skip))))) 
    (.seq 
    (.region [⟨(some 22), (.q (.load true 3 (.tmp 1))), none⟩, ⟨none, (.s (.store 3 (.tmp 2) (.tmp 22))), none⟩, ⟨(some 3), (.q (.move (.const (.int .i64 0)))), none⟩]) .ret))))
theorem t46 : Told Tryd.prog 46 23 c46 [(.cell 2 true 3), (.tmp 3)] := ⟨Tryd.f46, _, [], Tryd.func46, rfl, by kernel_rfl, rfl, by kernel_rfl, by kernel_rfl⟩
def c33 : ACode := 
    (.seq 
    (.region [⟨(some 3), (.s (.box 9 (.tmp 1))), none⟩, ⟨(some 4), (.q (.move (.const (.int .i64 0)))), none⟩]) 
    (.seq 
    (.region [⟨(some 5), (.q (.move (.tmp 0))), none⟩, ⟨(some 6), (.q (.nonil (.tmp 5))), none⟩, ⟨(some 7), (.q (.fieldAddr 1 (.tmp 6))), none⟩, ⟨(some 8), (.q (.load false 1 (.tmp 7))), none⟩, ⟨(some 9), (.q (.mkFunc (.func 56) [] [(.tmp 3)])), none⟩, ⟨(some 10), (.s (.call 55 [(.tmp 8), (.tmp 9)])), none⟩, ⟨(some 4), (.q (.move (.tmp 10))), none⟩]) .ret))
theorem t33 : Told Tryd.prog 33 11 c33 [(.tmp 4)] := ⟨Tryd.f33, _, [], Tryd.func33, rfl, by kernel_rfl, rfl, by kernel_rfl, by kernel_rfl⟩
def c56 : ACode := 
    (.seq 
    (.region [⟨(some 2), (.s (.box 62 (.tmp 0))), none⟩, ⟨(some 3), (.q (.move (.const (.bool false)))), none⟩]) 
    (.seq 
    (.region [⟨(some 4), (.q (.fieldAddr 0 (.tmp 2))), none⟩, ⟨(some 5), (.q (.load false 1 (.tmp 4))), none⟩, ⟨(some 6), (.q (.load false 1 (.tmp 1))), none⟩, ⟨(some 7), (.q (.bin .eql (.tmp 5) (.tmp 6))), none⟩, ⟨(some 3), (.q (.move (.tmp 7))), none⟩]) .ret))
theorem t56 : Told Tryd.prog 56 8 c56 [(.tmp 3)] := ⟨Tryd.f56, _, [], Tryd.func56, rfl, by kernel_rfl, rfl, by kernel_rfl, by kernel_rfl⟩
def c14 : ACode := 
    (.seq 
    (.region [⟨(some 4), (.s (.box 25 (.tmp 0))), none⟩, ⟨(some 6), (.s (.box 9 (.tmp 2))), none⟩, ⟨(some 7), (.s (.box 9 (.tmp 3))), none⟩, ⟨(some 8), (.s (.alloc 25 [(.str (B [])), .nils, .nils])), none⟩, ⟨(some 9), (.q (.move (.const (.int .i64 0)))), none⟩]) 
    (.seq 
    (.region [⟨(some 10), (.q (.load true 3 (.tmp 4))), none⟩, ⟨(some 11), (.q (.move (.tmp 1))), none⟩, ⟨(some 12), (.q (.mkFunc (.func 31) [] [(.tmp 6), (.tmp 7)])), none⟩, ⟨(some 13), (.s (.call 30 [(.tmp 10), (.tmp 11), (.tmp 12)])), none⟩, ⟨(some 14), (.q (.extract 0 (.tmp 13))), none⟩, ⟨(some 15), (.q (.extract 1 (.tmp 13))), none⟩, ⟨none, (.s (.store 3 (.tmp 8) (.tmp 14))), none⟩, ⟨(some 9), (.q (.move (.tmp 15))), none⟩]) .ret))
theorem t14 : Told Tryd.prog 14 16 c14 [(.cell 8 true 3), (.tmp 9)] := ⟨Tryd.f14, _, [], Tryd.func14, rfl, by kernel_rfl, rfl, by kernel_rfl, by kernel_rfl⟩
def c31 : ACode := 
    (.seq 
    (.region [⟨(some 4), (.q (.move (.const (.int .i64 0)))), none⟩]) 
    (.seq 
    (.seq 
    (.region [⟨(some 6), (.q (.load false 1 (.tmp 1))), none⟩, ⟨(some 7), (.s (.call 32 [(.tmp 6)])), none⟩, ⟨(some 8), (.q (.un .not (.tmp 7))), none⟩]) 
    (.cond (.tmp 8) 
    (.seq 
    (.region [⟨(some 4), (.q (.move (.const (.int .i64 1)))), none⟩]) .ret) .skip)) 
    (.seq 
    (.seq 
    (.region [⟨(some 9), (.q (.move (.tmp 0))), none⟩, ⟨(some 10), (.q (.load false 1 (.tmp 1))), none⟩, ⟨(some 11), (.s (.call 33 [(.tmp 9), (.tmp 10)])), none⟩, ⟨(some 5), (.q (.move (.tmp 11))), none⟩]) 
    (.seq 
    (.region [⟨(some 12), (.q (.move (.tmp 5))), none⟩, ⟨(some 13), (.q (.bin .geq (.tmp 12) (.const (.int .i64 0)))), none⟩]) 
    (.cond (.tmp 13) 
    (.region [⟨(some 14), (.q (.move (.tmp 0))), none⟩, ⟨(some 15), (.q (.nonil (.tmp 14))), none⟩, ⟨(some 16), (.q (.fieldAddr 1 (.tmp 15))), none⟩, ⟨(some 17), (.q (.load false 1 (.tmp 16))), none⟩, ⟨(some 18), (.q (.move (.tmp 5))), none⟩, ⟨(some 19), (.q (.load false 1 (.tmp 2))), none⟩, ⟨(some 20), (.q (.idxSl 2 (.tmp 17) (.tmp 18))), none⟩, ⟨(some 21), (.q (.fieldAddr 1 (.tmp 20))), none⟩, ⟨none, (.s (.store 1 (.tmp 21) (.tmp 19))), none⟩]) 
    (.region [⟨(some 22), (.q (.move (.tmp 0))), none⟩, ⟨(some 23), (.q (.move (.tmp 0))), none⟩, ⟨(some 24), (.q (.nonil (.tmp 23))), none⟩, ⟨(some 25), (.q (.fieldAddr 1 (.tmp 24))), none⟩, ⟨(some 26), (.q (.load false 1 (.tmp 25))), none⟩, ⟨(some 27), (.q (.load false 1 (.tmp 1))), none⟩, ⟨(some 28), (.q (.load false 1 (.tmp 2))), none⟩, ⟨(some 29), (.q (.build [(.str (B [])), (.str (B []))] [(0, (1, (.tmp 27))), (1, (1, (.tmp 28)))])), none⟩, ⟨(some 30), (.s (.lit 62 2 [(.tmp 29)])), none⟩, ⟨(some 31), (.s (.app 62 2 32 (.tmp 26) (.tmp 30))), none⟩, ⟨(some 32), (.q (.nonil (.tmp 22))), none⟩, ⟨(some 33), (.q (.fieldAddr 1 (.tmp 32))), none⟩, ⟨none, (.s (.store 1 (.tmp 33) (.tmp 31))), none⟩])))) 
    (.seq 
    (.region [⟨(some 4), (.q (.move (.const (.int .i64 0)))), none⟩]) .ret))))
theorem t31 : Told Tryd.prog 31 34 c31 [(.tmp 4)] := ⟨Tryd.f31, _, [], Tryd.func31, rfl, by kernel_rfl, rfl, by kernel_rfl, by kernel_rfl⟩
def c16 : ACode := 
    (.seq 
    (.region [⟨(some 3), (.s (.box 25 (.tmp 0))), none⟩, ⟨(some 5), (.s (.box 9 (.tmp 2))), none⟩, ⟨(some 6), (.s (.alloc 25 [(.str (B [])), .nils, .nils])), none⟩, ⟨(some 7), (.q (.move (.const (.int .i64 0)))), none⟩]) 
    (.seq 
    (.region [⟨(some 8), (.q (.load true 3 (.tmp 3))), none⟩, ⟨(some 9), (.q (.move (.tmp 1))), none⟩, ⟨(some 10), (.q (.mkFunc (.func 34) [] [(.tmp 5)])), none⟩, ⟨(some 11), (.s (.call 30 [(.tmp 8), (.tmp 9), (.tmp 10)])), none⟩, ⟨(some 12), (.q (.extract 0 (.tmp 11))), none⟩, ⟨(some 13), (.q (.extract 1 (.tmp 11))), none⟩, ⟨none, (.s (.store 3 (.tmp 6) (.tmp 12))), none⟩, ⟨(some 7), (.q (.move (.tmp 13))), none⟩]) .ret))
theorem t16 : Told Tryd.prog 16 14 c16 [(.cell 6 true 3), (.tmp 7)] := ⟨Tryd.f16, _, [], Tryd.func16, rfl, by kernel_rfl, rfl, by kernel_rfl, by kernel_rfl⟩
def c34 : ACode := 
    (.seq 
    (.region [⟨(some 3), (.q (.move (.const (.int .i64 0)))), none⟩]) 
    (.seq 
    (.region [⟨(some 5), (.q (.move (.tmp 0))), none⟩, ⟨(some 6), (.q (.load false 1 (.tmp 1))), none⟩, ⟨(some 7), (.s (.call 33 [(.tmp 5), (.tmp 6)])), none⟩, ⟨(some 4), (.q (.move (.tmp 7))), none⟩]) 
    (.seq 
    (.seq 
    (.region [⟨(some 8), (.q (.move (.tmp 4))), none⟩, ⟨(some 9), (.q (.bin .lss (.tmp 8) (.const (.int .i64 0)))), none⟩]) 
    (.cond (.tmp 9) 
    (.seq 
    (.region [⟨(some 3), (.q (.move (.const (.int .i64 8)))), none⟩]) .ret) .skip)) 
    (.seq 
    (.region [⟨(some 10), (.q (.move (.tmp 0))), none⟩, ⟨(some 11), (.q (.move (.tmp 0))), none⟩, ⟨(some 12), (.q (.nonil (.tmp 11))), none⟩, ⟨(some 13), (.q (.fieldAddr 1 (.tmp 12))), none⟩, ⟨(some 14), (.q (.load false 1 (.tmp 13))), none⟩, ⟨(some 15), (.q (.move (.tmp 4))), none⟩, ⟨(some 16), (.q (.move (.tmp 4))), none⟩, ⟨(some 17), (.q (.bin .add (.tmp 16) (.const (.int .i64 1)))), none⟩, ⟨(some 18), (.s (.call 35 [(.tmp 14), (.tmp 15), (.tmp 17)])), none⟩, ⟨(some 19), (.q (.nonil (.tmp 10))), none⟩, ⟨(some 20), (.q (.fieldAddr 1 (.tmp 19))), none⟩, ⟨none, (.s (.store 1 (.tmp 20) (.tmp 18))), none⟩]) 
    (.seq 
    (.region [⟨(some 3), (.q (.move (.const (.int .i64 0)))), none⟩]) .ret)))))
theorem t34 : Told Tryd.prog 34 21 c34 [(.tmp 3)] := ⟨Tryd.f34, _, [], Tryd.func34, rfl, by kernel_rfl, rfl, by kernel_rfl, by kernel_rfl⟩
def c17 : ACode := 
    (.seq 
    (.region [⟨(some 3), (.s (.box 25 (.tmp 0))), none⟩, ⟨(some 5), (.s (.box 9 (.tmp 2))), none⟩, ⟨(some 6), (.s (.alloc 25 [(.str (B [])), .nils, .nils])), none⟩, ⟨(some 7), (.q (.move (.const (.int .i64 0)))), none⟩]) 
    (.seq 
    (.region [⟨(some 8), (.q (.load true 3 (.tmp 3))), none⟩, ⟨(some 9), (.q (.move (.tmp 1))), none⟩, ⟨(some 10), (.q (.mkFunc (.func 36) [] [(.tmp 5)])), none⟩, ⟨(some 11), (.s (.call 30 [(.tmp 8), (.tmp 9), (.tmp 10)])), none⟩, ⟨(some 12), (.q (.extract 0 (.tmp 11))), none⟩, ⟨(some 13), (.q (.extract 1 (.tmp 11))), none⟩, ⟨none, (.s (.store 3 (.tmp 6) (.tmp 12))), none⟩, ⟨(some 7), (.q (.move (.tmp 13))), none⟩]) .ret))
theorem t17 : Told Tryd.prog 17 14 c17 [(.cell 6 true 3), (.tmp 7)] := ⟨Tryd.f17, _, [], Tryd.func17, rfl, by kernel_rfl, rfl, by kernel_rfl, by kernel_rfl⟩
def c18 : ACode := 
    (.seq 
    (.region [⟨(some 2), (.s (.box 25 (.tmp 0))), none⟩, ⟨(some 4), (.s (.alloc 25 [(.str (B [])), .nils, .nils])), none⟩, ⟨(some 5), (.q (.move (.const (.int .i64 0)))), none⟩]) 
    (.seq 
    (.region [⟨(some 10), (.q (.move (.tmp 1))), none⟩, ⟨(some 11), (.s (.call 39 [(.tmp 10)])), none⟩, ⟨(some 9), (.q (.move (.tmp 11))), none⟩, ⟨(some 12), (.q (.extract 0 (.tmp 9))), none⟩, ⟨(some 13), (.q (.extract 1 (.tmp 9))), none⟩, ⟨(some 6), (.s (.alloc 54 [.nils])), none⟩, ⟨none, (.s (.store 1 (.tmp 6) (.tmp 12))), none⟩, ⟨(some 7), (.q (.move (.tmp 13))), none⟩]) 
    (.seq 
    (.seq 
    (.region [⟨(some 14), (.q (.move (.tmp 7))), none⟩, ⟨(some 15), (.q (.un .not (.tmp 14))), none⟩]) 
    (.cond (.tmp 15) 
    (.seq 
    (.region [⟨(some 16), (.q (.build [(.str (B [])), .nils, .nils] [])), none⟩, ⟨none, (.s (.store 3 (.tmp 4) (.tmp 16))), none⟩, ⟨(some 5), (.q (.move (.const (.int .i64 8)))), none⟩]) .ret) .skip)) 
    (.seq 
    (.seq 
    (.region [⟨(some 17), (.q (.load false 1 (.tmp 6))), none⟩, ⟨(some 18), (.q (.len false (.tmp 17))), none⟩, ⟨(some 19), (.q (.bin .eql (.tmp 18) (.const (.int .i64 0)))), none⟩]) 
    (.cond (.tmp 19) 
    (.seq 
    (.region [⟨(some 20), (.q (.build [(.str (B [])), .nils, .nils] [])), none⟩, ⟨none, (.s (.store 3 (.tmp 4) (.tmp 20))), none⟩, ⟨(some 5), (.q (.move (.const (.int .i64 1)))), none⟩]) .ret) .skip)) 
    (.seq 
    (.region [⟨(some 21), (.q (.load false 1 (.tmp 6))), none⟩, ⟨(some 22), (.q (.len false (.tmp 21))), none⟩, ⟨(some 23), (.q (.bin .sub (.tmp 22) (.const (.int .i64 1)))), none⟩, ⟨(some 8), (.s (.alloc 3 [(.int .i64 0)])), none⟩, ⟨none, (.s (.store 1 (.tmp 8) (.tmp 23))), none⟩]) 
    (.seq 
    (.region [⟨(some 24), (.q (.load true 3 (.tmp 2))), none⟩, ⟨(some 25), (.q (.load false 1 (.tmp 6))), none⟩, ⟨(some 26), (.q (.load false 1 (.tmp 8))), none⟩, ⟨(some 27), (.q (.sliceSl 1 (.tmp 25) none (some (.tmp 26)))), none⟩, ⟨(some 28), (.c (.fn 40) [(.tmp 27)]), none⟩, ⟨(some 29), (.q (.mkFunc (.func 41) [] [(.tmp 6), (.tmp 8)])), none⟩, ⟨(some 30), (.s (.call 30 [(.tmp 24), (.tmp 28), (.tmp 29)])), none⟩, ⟨(some 31), (.q (.extract 0 (.tmp 30))), none⟩, ⟨(some 32), (.q (.extract 1 (.tmp 30))), none⟩, ⟨none, (.s (.store 3 (.tmp 4) (.tmp 31))), none⟩, ⟨(some 5), (.q (.move (.tmp 32))), none⟩]) .ret))))))
theorem t18 : Told Tryd.prog 18 33 c18 [(.cell 4 true 3), (.tmp 5)] := ⟨Tryd.f18, _, [], Tryd.func18, rfl, by kernel_rfl, rfl, by kernel_rfl, by kernel_rfl⟩
def c41 : ACode := 
    (.seq 
    (.region [⟨(some 4), (.q (.move (.const (.int .i64 0)))), none⟩]) 
    (.seq 
    (.region [⟨(some 6), (.q (.move (.tmp 0))), none⟩, ⟨(some 7), (.q (.nonil (.tmp 6))), none⟩, ⟨(some 8), (.q (.fieldAddr 2 (.tmp 7))), none⟩, ⟨(some 9), (.q (.load false 1 (.tmp 8))), none⟩, ⟨(some 10), (.q (.mkFunc (.func 43) [] [(.tmp 1), (.tmp 2)])), none⟩, ⟨(some 11), (.s (.call 42 [(.tmp 9), (.tmp 10)])), none⟩, ⟨(some 5), (.q (.move (.tmp 11))), none⟩]) 
    (.seq 
    (.seq 
    (.region [⟨(some 12), (.q (.move (.tmp 5))), none⟩, ⟨(some 13), (.q (.bin .lss (.tmp 12) (.const (.int .i64 0)))), none⟩]) 
    (.cond (.tmp 13) 
    (.seq 
    (.region [⟨(some 4), (.q (.move (.const (.int .i64 8)))), none⟩]) .ret) .skip)) 
    (.seq 
    (.region [⟨(some 14), (.q (.move (.tmp 0))), none⟩, ⟨(some 15), (.q (.move (.tmp 0))), none⟩, ⟨(some 16), (.q (.nonil (.tmp 15))), none⟩, ⟨(some 17), (.q (.fieldAddr 2 (.tmp 16))), none⟩, ⟨(some 18), (.q (.load false 1 (.tmp 17))), none⟩, ⟨(some 19), (.q (.move (.tmp 5))), none⟩, ⟨(some 20), (.q (.move (.tmp 5))), none⟩, ⟨(some 21), (.q (.bin .add (.tmp 20) (.const (.int .i64 1)))), none⟩, ⟨(some 22), (.s (.call 44 [(.tmp 18), (.tmp 19), (.tmp 21)])), none⟩, ⟨(some 23), (.q (.nonil (.tmp 14))), none⟩, ⟨(some 24), (.q (.fieldAddr 2 (.tmp 23))), none⟩, ⟨none, (.s (.store 1 (.tmp 24) (.tmp 22))), none⟩]) 
    (.seq 
    (.region [⟨(some 4), (.q (.move (.const (.int .i64 0)))), none⟩]) .ret)))))
theorem t41 : Told Tryd.prog 41 25 c41 [(.tmp 4)] := ⟨Tryd.f41, _, [], Tryd.func41, rfl, by kernel_rfl, rfl, by kernel_rfl, by kernel_rfl⟩
def c43 : ACode := 
    (.seq 
    (.region [⟨(some 3), (.s (.box 25 (.tmp 0))), none⟩, ⟨(some 4), (.q (.move (.const (.bool false)))), none⟩]) 
    (.seq 
    (.region [⟨(some 5), (.q (.fieldAddr 0 (.tmp 3))), none⟩, ⟨(some 6), (.q (.load false 1 (.tmp 5))), none⟩, ⟨(some 7), (.q (.load false 1 (.tmp 1))), none⟩, ⟨(some 8), (.q (.load false 1 (.tmp 2))), none⟩, ⟨(some 9), (.q (.idxSl 1 (.tmp 7) (.tmp 8))), none⟩, ⟨(some 10), (.q (.load false 1 (.tmp 9))), none⟩, ⟨(some 11), (.q (.bin .eql (.tmp 6) (.tmp 10))), none⟩, ⟨(some 4), (.q (.move (.tmp 11))), none⟩]) .ret))
theorem t43 : Told Tryd.prog 43 12 c43 [(.tmp 4)] := ⟨Tryd.f43, _, [], Tryd.func43, rfl, by kernel_rfl, rfl, by kernel_rfl, by kernel_rfl⟩
def c21 : ACode := 
    (.seq 
    (.region [⟨(some 2), (.s (.box 25 (.tmp 0))), none⟩, ⟨(some 4), (.s (.alloc 25 [(.str (B [])), .nils, .nils])), none⟩, ⟨(some 5), (.q (.move (.const (.int .i64 0)))), none⟩]) 
    (.seq 
    (.region [⟨(some 14), (.q (.move (.tmp 1))), none⟩, ⟨(some 15), (.s (.call 39 [(.tmp 14)])), none⟩, ⟨(some 13), (.q (.move (.tmp 15))), none⟩, ⟨(some 16), (.q (.extract 0 (.tmp 13))), none⟩, ⟨(some 17), (.q (.extract 1 (.tmp 13))), none⟩, ⟨(some 6), (.q (.move (.tmp 16))), none⟩, ⟨(some 7), (.q (.move (.tmp 17))), none⟩]) 
    (.seq 
    (.seq 
    (.region [⟨(some 18), (.q (.move (.tmp 7))), none⟩, ⟨(some 19), (.q (.un .not (.tmp 18))), none⟩]) 
    (.cond (.tmp 19) 
    (.seq 
    (.region [⟨(some 20), (.q (.build [(.str (B [])), .nils, .nils] [])), none⟩, ⟨none, (.s (.store 3 (.tmp 4) (.tmp 20))), none⟩, ⟨(some 5), (.q (.move (.const (.int .i64 8)))), none⟩]) .ret) .skip)) 
    (.seq 
    (.seq 
    (.region [⟨(some 21), (.q (.move (.tmp 6))), none⟩, ⟨(some 22), (.q (.len false (.tmp 21))), none⟩, ⟨(some 23), (.q (.move (.const (.int .i64 0)))), none⟩]) 
    (.block 0 
    (.loop 
    (.seq 
    (.region [⟨(some 24), (.q (.bin .lss (.tmp 23) (.tmp 22))), none⟩]) 
    (.seq 
    (.cond (.tmp 24) .skip (.exit 0)) 
    (.seq 
    (.block 1 
    (.seq 
    (.region [⟨(some 25), (.q (.move (.tmp 23))), none⟩, ⟨(some 8), (.q (.move (.tmp 25))), none⟩]) 
    (.seq 
    (.seq 
    (.regionN 10 [⟨(some 27), (.q (.load true 3 (.tmp 2))), none⟩, ⟨(some 28), (.q (.move (.tmp 6))), none⟩, ⟨(some 29), (.q (.move (.tmp 8))), none⟩, ⟨(some 30), (.q (.bin .add (.tmp 29) (.const (.int .i64 1)))), none⟩, ⟨(some 31), (.q (.sliceSl 1 (.tmp 28) none (some (.tmp 30)))), none⟩, ⟨(some 32), (.c (.fn 40) [(.tmp 31)]), none⟩, ⟨(some 9), (.q (.move (.const .top))), none⟩, ⟨(some 33), (.s (.call 45 [(.tmp 27), (.tmp 32)])), none⟩, ⟨(some 26), (.q (.move (.tmp 33))), none⟩, ⟨(some 34), (.q (.extract 0 (.tmp 26))), none⟩, ⟨(some 35), (.q (.extract 1 (.tmp 26))), none⟩, ⟨(some 9), (.s (.put 25 3 (.tmp 34))), none⟩, ⟨(some 10), (.q (.move (.tmp 35))), none⟩]) 
    (.seq 
    (.region [⟨(some 36), (.q (.move (.tmp 10))), none⟩]) 
    (.cond (.tmp 36) (.exit 1) .skip))) 
    (.seq 
    (.regionN 12 [⟨(some 38), (.q (.load true 3 (.tmp 2))), none⟩, ⟨(some 39), (.q (.move (.tmp 6))), none⟩, ⟨(some 40), (.q (.move (.tmp 8))), none⟩, ⟨(some 41), (.q (.sliceSl 1 (.tmp 39) none (some (.tmp 40)))), none⟩, ⟨(some 42), (.c (.fn 40) [(.tmp 41)]), none⟩, ⟨(some 43), (.q (.move (.tmp 6))), none⟩, ⟨(some 44), (.q (.move (.tmp 8))), none⟩, ⟨(some 45), (.q (.idxSl 1 (.tmp 43) (.tmp 44))), none⟩, ⟨(some 46), (.q (.load false 1 (.tmp 45))), none⟩, ⟨(some 11), (.q (.move (.const .top))), none⟩, ⟨(some 47), (.s (.call 17 [(.tmp 38), (.tmp 42), (.tmp 46)])), none⟩, ⟨(some 37), (.q (.move (.tmp 47))), none⟩, ⟨(some 48), (.q (.extract 0 (.tmp 37))), none⟩, ⟨(some 49), (.q (.extract 1 (.tmp 37))), none⟩, ⟨(some 11), (.s (.put 25 3 (.tmp 48))), none⟩, ⟨(some 12), (.q (.move (.tmp 49))), none⟩]) 
    (.seq 
    (.seq 
    (.region [⟨(some 50), (.q (.move (.tmp 12))), none⟩, ⟨(some 51), (.q (.bin .neq (.tmp 50) (.const (.int .i64 0)))), none⟩]) 
    (.cond (.tmp 51) 
    (.seq 
    (.region [⟨(some 52), (.q (.build [(.str (B [])), .nils, .nils] [])), none⟩, ⟨(some 53), (.q (.move (.tmp 12))), none⟩, ⟨none, (.s (.store 3 (.tmp 4) (.tmp 52))), none⟩, ⟨(some 5), (.q (.move (.tmp 53))), none⟩]) .ret) .skip)) 
    (.region [⟨(some 54), (.q (.load true 3 (.tmp 11))), none⟩, ⟨none, (.s (.store 3 (.tmp 2) (.tmp 54))), none⟩])))))) 
    (.region [⟨(some 55), (.q (.bin .add (.tmp 23) (.const (.int .i64 1)))), none⟩, ⟨(some 23), (.q (.move (.tmp 55))), none⟩]))))))) 
    (.seq 
    (.region [⟨(some 56), (.q (.load true 3 (.tmp 2))), none⟩, ⟨(some 57), (.s (.call 47 [(.tmp 56)])), none⟩, ⟨(some 58), (.s (.call 46 [(.tmp 57)])), none⟩, ⟨(some 59), (.q (.extract 0 (.tmp 58))), none⟩, ⟨(some 60), (.q (.extract 1 (.tmp 58))), none⟩, ⟨none, (.s (.store 3 (.tmp 4) (.tmp 59))), none⟩, ⟨(some 5), (.q (.move (.tmp 60))), none⟩]) .ret)))))
theorem t21 : Told Tryd.prog 21 61 c21 [(.cell 4 true 3), (.tmp 5)] := ⟨Tryd.f21, _, [], Tryd.func21, rfl, by kernel_rfl, rfl, by kernel_rfl, by kernel_rfl⟩
def c32 : ACode := 
    (.seq 
    (.region [⟨(some 2), (.q (.move (.const (.bool false)))), none⟩]) 
    (.seq 
    (.region [⟨(some 7), (.q (.move (.tmp 0))), none⟩, ⟨(some 8), (.s (.lit 9 1 [(.tmp 7)])), none⟩, ⟨(some 9), (.s (.call 54 [(.tmp 8)])), none⟩, ⟨(some 6), (.q (.move (.tmp 9))), none⟩, ⟨(some 10), (.q (.extract 0 (.tmp 6))), none⟩, ⟨(some 11), (.q (.extract 1 (.tmp 6))), none⟩, ⟨(some 12), (.q (.extract 2 (.tmp 6))), none⟩, ⟨(some 3), (.q (.move (.tmp 10))), none⟩, ⟨(some 4), (.q (.move (.tmp 11))), none⟩, ⟨(some 5), (.q (.move (.tmp 12))), none⟩]) 
    (.seq 
    (.region [⟨(some 13), (.q (.move (.tmp 5))), none⟩, ⟨(some 14), (.q (.bin .eql (.tmp 13) (.const (.int .i64 0)))), none⟩, ⟨(some 2), (.q (.move (.tmp 14))), none⟩]) .ret)))
theorem t32 : Told Tryd.prog 32 15 c32 [(.tmp 2)] := ⟨Tryd.f32, _, [], Tryd.func32, rfl, by kernel_rfl, rfl, by kernel_rfl, by kernel_rfl⟩
def c66 : ACode := 
    (.seq 
    (.region [⟨(some 2), (.s (.box 25 (.tmp 0))), none⟩, ⟨(some 3), (.s (.box 27 (.tmp 1))), none⟩, ⟨(some 4), (.s (.alloc 25 [(.str (B [])), .nils, .nils])), none⟩, ⟨(some 5), (.q (.move (.const (.int .i64 0)))), none⟩]) 
    (.seq 
    (.region [⟨(some 12), (.q (.load true 3 (.tmp 2))), none⟩, ⟨(some 13), (.q (.fieldAddr 1 (.tmp 3))), none⟩, ⟨(some 14), (.q (.load false 1 (.tmp 13))), none⟩, ⟨(some 15), (.s (.call 29 [(.tmp 12), (.tmp 14)])), none⟩, ⟨(some 11), (.q (.move (.tmp 15))), none⟩, ⟨(some 16), (.q (.extract 0 (.tmp 11))), none⟩, ⟨(some 17), (.q (.extract 1 (.tmp 11))), none⟩, ⟨(some 6), (.s (.alloc 25 [(.str (B [])), .nils, .nils])), none⟩, ⟨none, (.s (.store 3 (.tmp 6) (.tmp 16))), none⟩, ⟨(some 7), (.q (.move (.tmp 17))), none⟩]) 
    (.seq 
    (.seq 
    (.region [⟨(some 18), (.q (.fieldAddr 0 (.tmp 3))), none⟩, ⟨(some 19), (.q (.load false 1 (.tmp 18))), none⟩]) 
    (.block 0 
    (.seq 
    (.region [⟨(some 30), (.q (.bin .eql (.tmp 19) (.const (.int .i64 1)))), none⟩, ⟨(some 29), (.q (.move (.tmp 30))), none⟩]) 
    (.cond (.tmp 29) 
    (.seq 
    (.seq 
    (.region [⟨(some 31), (.q (.fieldAddr 1 (.tmp 3))), none⟩, ⟨(some 32), (.q (.load false 1 (.tmp 31))), none⟩, ⟨(some 33), (.s (.call 78 [(.tmp 32)])), none⟩, ⟨(some 34), (.q (.un .not (.tmp 33))), none⟩]) 
    (.cond (.tmp 34) 
    (.seq 
    (.region [⟨(some 35), (.q (.build [(.str (B [])), .nils, .nils] [])), none⟩, ⟨none, (.s (.store 3 (.tmp 4) (.tmp 35))), none⟩, ⟨(some 5), (.q (.move (.const (.int .i64 1)))), none⟩]) .ret) .skip)) 
    (.region [⟨(some 37), (.q (.fieldAddr 1 (.tmp 2))), none⟩, ⟨(some 38), (.q (.load false 1 (.tmp 37))), none⟩, ⟨(some 39), (.q (.load true 3 (.tmp 3))), none⟩, ⟨(some 40), (.s (.call 79 [(.tmp 38), (.tmp 39)])), none⟩, ⟨(some 36), (.q (.move (.tmp 40))), none⟩, ⟨(some 41), (.q (.extract 0 (.tmp 36))), none⟩, ⟨(some 42), (.q (.extract 1 (.tmp 36))), none⟩, ⟨(some 43), (.q (.fieldAddr 1 (.tmp 2))), none⟩, ⟨none, (.s (.store 1 (.tmp 43) (.tmp 41))), none⟩])) 
    (.seq 
    (.region [⟨(some 45), (.q (.bin .eql (.tmp 19) (.const (.int .i64 2)))), none⟩, ⟨(some 44), (.q (.move (.tmp 45))), none⟩]) 
    (.cond (.tmp 44) 
    (.seq 
    (.region [⟨(some 47), (.q (.fieldAddr 1 (.tmp 2))), none⟩, ⟨(some 48), (.q (.load false 1 (.tmp 47))), none⟩, ⟨(some 49), (.q (.load true 3 (.tmp 3))), none⟩, ⟨(some 50), (.s (.call 79 [(.tmp 48), (.tmp 49)])), none⟩, ⟨(some 46), (.q (.move (.tmp 50))), none⟩, ⟨(some 51), (.q (.extract 0 (.tmp 46))), none⟩, ⟨(some 52), (.q (.extract 1 (.tmp 46))), none⟩, ⟨(some 8), (.q (.move (.tmp 51))), none⟩, ⟨(some 9), (.q (.move (.tmp 52))), none⟩]) 
    (.seq 
    (.seq 
    (.region [⟨(some 53), (.q (.move (.tmp 9))), none⟩, ⟨(some 54), (.q (.un .not (.tmp 53))), none⟩]) 
    (.cond (.tmp 54) 
    (.seq 
    (.region [⟨(some 55), (.q (.build [(.str (B [])), .nils, .nils] [])), none⟩, ⟨none, (.s (.store 3 (.tmp 4) (.tmp 55))), none⟩, ⟨(some 5), (.q (.move (.const (.int .i64 8)))), none⟩]) .ret) .skip)) 
    (.region [⟨(some 56), (.q (.move (.tmp 8))), none⟩, ⟨(some 57), (.q (.fieldAddr 1 (.tmp 2))), none⟩, ⟨none, (.s (.store 1 (.tmp 57) (.tmp 56))), none⟩]))) 
    (.seq 
    (.region [⟨(some 59), (.q (.bin .eql (.tmp 19) (.const (.int .i64 3)))), none⟩, ⟨(some 58), (.q (.move (.tmp 59))), none⟩]) 
    (.cond (.tmp 58) 
    (.seq 
    (.seq 
    (.region [⟨(some 60), (.q (.fieldAddr 1 (.tmp 3))), none⟩, ⟨(some 61), (.q (.load false 1 (.tmp 60))), none⟩, ⟨(some 62), (.s (.call 80 [(.tmp 61)])), none⟩, ⟨(some 63), (.q (.un .not (.tmp 62))), none⟩]) 
    (.cond (.tmp 63) 
    (.seq 
    (.region [⟨(some 64), (.q (.build [(.str (B [])), .nils, .nils] [])), none⟩, ⟨none, (.s (.store 3 (.tmp 4) (.tmp 64))), none⟩, ⟨(some 5), (.q (.move (.const (.int .i64 1)))), none⟩]) .ret) .skip)) 
    (.seq 
    (.seq 
    (.region [⟨(some 65), (.q (.move (.tmp 7))), none⟩]) 
    (.cond (.tmp 65) 
    (.seq 
    (.region [⟨(some 66), (.q (.build [(.str (B [])), .nils, .nils] [])), none⟩, ⟨none, (.s (.store 3 (.tmp 4) (.tmp 66))), none⟩, ⟨(some 5), (.q (.move (.const (.int .i64 12)))), none⟩]) .ret) .skip)) 
    (.seq 
    (.region [⟨(some 10), (.q (.move (.const .nils))), none⟩]) 
    (.seq 
    (.region [⟨(some 67), (.q (.move (.tmp 10))), none⟩, ⟨(some 68), (.q (.fieldAddr 2 (.tmp 2))), none⟩, ⟨(some 69), (.q (.load false 1 (.tmp 68))), none⟩, ⟨(some 70), (.s (.app 25 3 64 (.tmp 67) (.tmp 69))), none⟩, ⟨(some 10), (.q (.move (.tmp 70))), none⟩]) 
    (.region [⟨(some 71), (.q (.move (.tmp 10))), none⟩, ⟨(some 72), (.q (.fieldAddr 1 (.tmp 3))), none⟩, ⟨(some 73), (.q (.load false 1 (.tmp 72))), none⟩, ⟨(some 74), (.q (.build [(.str (B [])), .nils, .nils] [(0, (1, (.tmp 73)))])), none⟩, ⟨(some 75), (.s (.lit 25 3 [(.tmp 74)])), none⟩, ⟨(some 76), (.s (.app 25 3 64 (.tmp 71) (.tmp 75))), none⟩, ⟨(some 77), (.q (.fieldAddr 2 (.tmp 2))), none⟩, ⟨none, (.s (.store 1 (.tmp 77) (.tmp 76))), none⟩]))))) 
    (.seq 
    (.seq 
    (.region [⟨(some 20), (.q (.move (.tmp 7))), none⟩, ⟨(some 21), (.q (.un .not (.tmp 20))), none⟩]) 
    (.cond (.tmp 21) 
    (.seq 
    (.region [⟨(some 22), (.q (.build [(.str (B [])), .nils, .nils] [])), none⟩, ⟨none, (.s (.store 3 (.tmp 4) (.tmp 22))), none⟩, ⟨(some 5), (.q (.move (.const (.int .i64 8)))), none⟩]) .ret) .skip)) 
    (.region [⟨(some 23), (.q (.fieldAddr 2 (.tmp 2))), none⟩, ⟨(some 24), (.q (.load false 1 (.tmp 23))), none⟩, ⟨(some 25), (.q (.fieldAddr 1 (.tmp 3))), none⟩, ⟨(some 26), (.q (.load false 1 (.tmp 25))), none⟩, ⟨(some 27), (.s (.call 81 [(.tmp 24), (.tmp 26)])), none⟩, ⟨(some 28), (.q (.fieldAddr 2 (.tmp 2))), none⟩, ⟨none, (.s (.store 1 (.tmp 28) (.tmp 27))), none⟩])))))))))) 
    (.seq 
    (.region [⟨(some 78), (.q (.load true 3 (.tmp 2))), none⟩, ⟨none, (.s (.store 3 (.tmp 4) (.tmp 78))), none⟩, ⟨(some 5), (.q (.move (.const (.int .i64 0)))), none⟩]) .ret))))
theorem t66 : Told Tryd.prog 66 79 c66 [(.cell 4 true 3), (.tmp 5)] := ⟨Tryd.f66, _, [], Tryd.func66, rfl, by kernel_rfl, rfl, by kernel_rfl, by kernel_rfl⟩
def c79 : ACode := 
    (.seq 
    (.region [⟨(some 3), (.s (.box 27 (.tmp 1))), none⟩, ⟨(some 4), (.q (.move (.const .nils))), none⟩, ⟨(some 5), (.q (.move (.const (.bool false)))), none⟩]) 
    (.seq 
    (.region [⟨(some 6), (.q (.move (.const .nils))), none⟩]) 
    (.seq 
    (.region [⟨(some 7), (.q (.move (.const (.bool false)))), none⟩]) 
    (.seq 
    (.seq 
    (.region [⟨(some 8), (.q (.move (.const (.int .i64 0)))), none⟩]) 
    (.block 0 
    (.loop 
    (.seq 
    (.seq 
    (.region [⟨(some 10), (.q (.move (.tmp 8))), none⟩, ⟨(some 11), (.q (.move (.tmp 0))), none⟩, ⟨(some 12), (.q (.len false (.tmp 11))), none⟩, ⟨(some 13), (.q (.bin .lss (.tmp 10) (.tmp 12))), none⟩]) 
    (.cond (.tmp 13) .skip (.exit 0))) 
    (.seq 
    (.block 1 
    (.seq 
    (.region [⟨(some 16), (.q (.move (.tmp 0))), none⟩, ⟨(some 17), (.q (.move (.tmp 8))), none⟩, ⟨(some 18), (.q (.idxSl 2 (.tmp 16) (.tmp 17))), none⟩, ⟨(some 19), (.q (.load true 2 (.tmp 18))), none⟩, ⟨(some 9), (.s (.alloc 62 [(.str (B [])), (.str (B []))])), none⟩, ⟨none, (.s (.store 2 (.tmp 9) (.tmp 19))), none⟩]) 
    (.seq 
    (.seq 
    (.region [⟨(some 20), (.q (.move (.tmp 7))), none⟩, ⟨(some 21), (.q (.un .not (.tmp 20))), none⟩, ⟨(some 22), (.q (.move (.tmp 21))), none⟩, ⟨(some 23), (.q (.fieldAddr 0 (.tmp 9))), (some (22, true))⟩, ⟨(some 24), (.q (.load false 1 (.tmp 23))), (some (22, true))⟩, ⟨(some 25), (.q (.fieldAddr 1 (.tmp 3))), (some (22, true))⟩, ⟨(some 26), (.q (.load false 1 (.tmp 25))), (some (22, true))⟩, ⟨(some 27), (.q (.bin .eql (.tmp 24) (.tmp 26))), (some (22, true))⟩, ⟨(some 28), (.q (.pick (.tmp 22) (.tmp 27) (.const (.bool false)))), none⟩]) 
    (.cond (.tmp 28) 
    (.seq 
    (.region [⟨(some 7), (.q (.move (.const (.bool true)))), none⟩]) 
    (.seq 
    (.seq 
    (.region [⟨(some 29), (.q (.fieldAddr 0 (.tmp 3))), none⟩, ⟨(some 30), (.q (.load false 1 (.tmp 29))), none⟩, ⟨(some 31), (.q (.bin .eql (.tmp 30) (.const (.int .i64 2)))), none⟩]) 
    (.cond (.tmp 31) (.exit 1) .skip)) 
    (.region [⟨(some 32), (.q (.fieldAddr 2 (.tmp 3))), none⟩, ⟨(some 33), (.q (.load false 1 (.tmp 32))), none⟩, ⟨(some 34), (.q (.fieldAddr 1 (.tmp 9))), none⟩, ⟨none, (.s (.store 1 (.tmp 34) (.tmp 33))), none⟩]))) .skip)) 
    (.region [⟨(some 35), (.q (.move (.tmp 6))), none⟩, ⟨(some 36), (.q (.load true 2 (.tmp 9))), none⟩, ⟨(some 37), (.s (.lit 62 2 [(.tmp 36)])), none⟩, ⟨(some 38), (.s (.app 62 2 32 (.tmp 35) (.tmp 37))), none⟩, ⟨(some 6), (.q (.move (.tmp 38))), none⟩])))) 
    (.region [⟨(some 14), (.q (.move (.tmp 8))), none⟩, ⟨(some 15), (.q (.bin .add (.tmp 14) (.const (.int .i64 1)))), none⟩, ⟨(some 8), (.q (.move (.tmp 15))), none⟩])))))) 
    (.seq 
    (.seq 
    (.region [⟨(some 39), (.q (.move (.tmp 7))), none⟩, ⟨(some 40), (.q (.un .not (.tmp 39))), none⟩, ⟨(some 41), (.q (.move (.tmp 40))), none⟩, ⟨(some 42), (.q (.fieldAddr 0 (.tmp 3))), (some (41, true))⟩, ⟨(some 43), (.q (.load false 1 (.tmp 42))), (some (41, true))⟩, ⟨(some 44), (.q (.bin .eql (.tmp 43) (.const (.int .i64 1)))), (some (41, true))⟩, ⟨(some 45), (.q (.pick (.tmp 41) (.tmp 44) (.const (.bool false)))), none⟩]) 
    (.cond (.tmp 45) 
    (.region [⟨(some 46), (.q (.move (.tmp 6))), none⟩, ⟨(some 47), (.q (.fieldAddr 1 (.tmp 3))), none⟩, ⟨(some 48), (.q (.load false 1 (.tmp 47))), none⟩, ⟨(some 49), (.q (.fieldAddr 2 (.tmp 3))), none⟩, ⟨(some 50), (.q (.load false 1 (.tmp 49))), none⟩, ⟨(some 51), (.q (.build [(.str (B [])), (.str (B []))] [(0, (1, (.tmp 48))), (1, (1, (.tmp 50)))])), none⟩, ⟨(some 52), (.s (.lit 62 2 [(.tmp 51)])), none⟩, ⟨(some 53), (.s (.app 62 2 32 (.tmp 46) (.tmp 52))), none⟩, ⟨(some 6), (.q (.move (.tmp 53))), none⟩]) .skip)) 
    (.seq 
    (.region [⟨(some 54), (.q (.move (.tmp 6))), none⟩, ⟨(some 55), (.q (.move (.tmp 7))), none⟩, ⟨(some 4), (.q (.move (.tmp 54))), none⟩, ⟨(some 5), (.q (.move (.tmp 55))), none⟩]) .ret))))))
theorem t79 : Told Tryd.prog 79 56 c79 [(.tmp 4), (.tmp 5)] := ⟨Tryd.f79, _, [], Tryd.func79, rfl, by kernel_rfl, rfl, by kernel_rfl, by kernel_rfl⟩
def c81 : ACode := 
    (.seq 
    (.region [⟨(some 4), (.q (.move (.const .nils))), none⟩]) 
    (.seq 
    (.region [⟨(some 5), (.q (.move (.const .nils))), none⟩]) 
    (.seq 
    (.region [⟨(some 6), (.q (.move (.const (.bool false)))), none⟩]) 
    (.seq 
    (.seq 
    (.region [⟨(some 7), (.q (.move (.const (.int .i64 0)))), none⟩]) 
    (.block 0 
    (.loop 
    (.seq 
    (.seq 
    (.region [⟨(some 8), (.q (.move (.tmp 7))), none⟩, ⟨(some 9), (.q (.move (.tmp 0))), none⟩, ⟨(some 10), (.q (.len false (.tmp 9))), none⟩, ⟨(some 11), (.q (.bin .lss (.tmp 8) (.tmp 10))), none⟩]) 
    (.cond (.tmp 11) .skip (.exit 0))) 
    (.seq 
    (.block 1 
    (.seq 
    (.seq 
    (.region [⟨(some 14), (.q (.move (.tmp 6))), none⟩, ⟨(some 15), (.q (.un .not (.tmp 14))), none⟩, ⟨(some 16), (.q (.move (.tmp 15))), none⟩, ⟨(some 17), (.q (.move (.tmp 0))), (some (16, true))⟩, ⟨(some 18), (.q (.move (.tmp 7))), (some (16, true))⟩, ⟨(some 19), (.q (.idxSl 3 (.tmp 17) (.tmp 18))), (some (16, true))⟩, ⟨(some 20), (.q (.fieldAddr 0 (.tmp 19))), (some (16, true))⟩, ⟨(some 21), (.q (.load false 1 (.tmp 20))), (some (16, true))⟩, ⟨(some 22), (.q (.move (.tmp 1))), (some (16, true))⟩, ⟨(some 23), (.q (.bin .eql (.tmp 21) (.tmp 22))), (some (16, true))⟩, ⟨(some 24), (.q (.pick (.tmp 16) (.tmp 23) (.const (.bool false)))), none⟩]) 
    (.cond (.tmp 24) 
    (.seq 
    (.region [⟨(some 6), (.q (.move (.const (.bool true)))), none⟩]) (.exit 1)) .skip)) 
    (.region [⟨(some 25), (.q (.move (.tmp 5))), none⟩, ⟨(some 26), (.q (.move (.tmp 0))), none⟩, ⟨(some 27), (.q (.move (.tmp 7))), none⟩, ⟨(some 28), (.q (.idxSl 3 (.tmp 26) (.tmp 27))), none⟩, ⟨(some 29), (.q (.load true 3 (.tmp 28))), none⟩, ⟨(some 30), (.s (.lit 25 3 [(.tmp 29)])), none⟩, ⟨(some 31), (.s (.app 25 3 64 (.tmp 25) (.tmp 30))), none⟩, ⟨(some 5), (.q (.move (.tmp 31))), none⟩]))) 
    (.region [⟨(some 12), (.q (.move (.tmp 7))), none⟩, ⟨(some 13), (.q (.bin .add (.tmp 12) (.const (.int .i64 1)))), none⟩, ⟨(some 7), (.q (.move (.tmp 13))), none⟩])))))) 
    (.seq 
    (.region [⟨(some 32), (.q (.move (.tmp 5))), none⟩, ⟨(some 4), (.q (.move (.tmp 32))), none⟩]) .ret)))))
theorem t81 : Told Tryd.prog 81 33 c81 [(.tmp 4)] := ⟨Tryd.f81, _, [], Tryd.func81, rfl, by kernel_rfl, rfl, by kernel_rfl, by kernel_rfl⟩
def c48 : ACode := 
    (.seq 
    (.region [⟨(some 3), (.s (.box 25 (.tmp 0))), none⟩, ⟨(some 5), (.s (.box 27 (.tmp 2))), none⟩, ⟨(some 6), (.s (.alloc 25 [(.str (B [])), .nils, .nils])), none⟩, ⟨(some 7), (.q (.move (.const (.int .i64 0)))), none⟩]) 
    (.seq 
    (.seq 
    (.region [⟨(some 14), (.q (.move (.tmp 1))), none⟩, ⟨(some 15), (.q (.len false (.tmp 14))), none⟩, ⟨(some 16), (.q (.bin .eql (.tmp 15) (.const (.int .i64 0)))), none⟩]) 
    (.cond (.tmp 16) 
    (.seq 
    (.region [⟨(some 17), (.q (.load true 3 (.tmp 3))), none⟩, ⟨(some 18), (.q (.load true 3 (.tmp 5))), none⟩, ⟨(some 19), (.s (.call 66 [(.tmp 17), (.tmp 18)])), none⟩, ⟨(some 20), (.q (.extract 0 (.tmp 19))), none⟩, ⟨(some 21), (.q (.extract 1 (.tmp 19))), none⟩, ⟨none, (.s (.store 3 (.tmp 6) (.tmp 20))), none⟩, ⟨(some 7), (.q (.move (.tmp 21))), none⟩]) .ret) .skip)) 
    (.seq 
    (.region [⟨(some 8), (.q (.move (.const .nils))), none⟩]) 
    (.seq 
    (.region [⟨(some 9), (.q (.move (.const (.bool false)))), none⟩]) 
    (.seq 
    (.seq 
    (.region [⟨(some 10), (.q (.move (.const (.int .i64 0)))), none⟩]) 
    (.block 0 
    (.loop 
    (.seq 
    (.seq 
    (.region [⟨(some 22), (.q (.move (.tmp 10))), none⟩, ⟨(some 23), (.q (.fieldAddr 2 (.tmp 3))), none⟩, ⟨(some 24), (.q (.load false 1 (.tmp 23))), none⟩, ⟨(some 25), (.q (.len false (.tmp 24))), none⟩, ⟨(some 26), (.q (.bin .lss (.tmp 22) (.tmp 25))), none⟩]) 
    (.cond (.tmp 26) .skip (.exit 0))) 
    (.seq 
    (.block 1 
    (.seq 
    (.region [⟨(some 29), (.q (.fieldAddr 2 (.tmp 3))), none⟩, ⟨(some 30), (.q (.load false 1 (.tmp 29))), none⟩, ⟨(some 31), (.q (.move (.tmp 10))), none⟩, ⟨(some 32), (.q (.idxSl 3 (.tmp 30) (.tmp 31))), none⟩, ⟨(some 33), (.q (.load true 3 (.tmp 32))), none⟩, ⟨(some 11), (.s (.alloc 25 [(.str (B [])), .nils, .nils])), none⟩, ⟨none, (.s (.store 3 (.tmp 11) (.tmp 33))), none⟩]) 
    (.seq 
    (.seq 
    (.region [⟨(some 34), (.q (.move (.tmp 9))), none⟩, ⟨(some 35), (.q (.un .not (.tmp 34))), none⟩, ⟨(some 36), (.q (.move (.tmp 35))), none⟩, ⟨(some 37), (.q (.fieldAddr 0 (.tmp 11))), (some (36, true))⟩, ⟨(some 38), (.q (.load false 1 (.tmp 37))), (some (36, true))⟩, ⟨(some 39), (.q (.move (.tmp 1))), (some (36, true))⟩, ⟨(some 40), (.q (.idxSl 1 (.tmp 39) (.const (.int .i64 0)))), (some (36, true))⟩, ⟨(some 41), (.q (.load false 1 (.tmp 40))), (some (36, true))⟩, ⟨(some 42), (.q (.bin .eql (.tmp 38) (.tmp 41))), (some (36, true))⟩, ⟨(some 43), (.q (.pick (.tmp 36) (.tmp 42) (.const (.bool false)))), none⟩]) 
    (.cond (.tmp 43) 
    (.seq 
    (.region [⟨(some 9), (.q (.move (.const (.bool true)))), none⟩]) 
    (.seq 
    (.regionN 13 [⟨(some 45), (.q (.load true 3 (.tmp 11))), none⟩, ⟨(some 46), (.q (.move (.tmp 1))), none⟩, ⟨(some 47), (.q (.sliceSl 1 (.tmp 46) (some (.const (.int .i64 1))) none)), none⟩, ⟨(some 48), (.q (.load true 3 (.tmp 5))), none⟩, ⟨(some 12), (.q (.move (.const .top))), none⟩, ⟨(some 49), (.s (.call 48 [(.tmp 45), (.tmp 47), (.tmp 48)])), none⟩, ⟨(some 44), (.q (.move (.tmp 49))), none⟩, ⟨(some 50), (.q (.extract 0 (.tmp 44))), none⟩, ⟨(some 51), (.q (.extract 1 (.tmp 44))), none⟩, ⟨(some 12), (.s (.put 25 3 (.tmp 50))), none⟩, ⟨(some 13), (.q (.move (.tmp 51))), none⟩]) 
    (.seq 
    (.seq 
    (.region [⟨(some 52), (.q (.move (.tmp 13))), none⟩, ⟨(some 53), (.q (.bin .neq (.tmp 52) (.const (.int .i64 0)))), none⟩]) 
    (.cond (.tmp 53) 
    (.seq 
    (.region [⟨(some 54), (.q (.build [(.str (B [])), .nils, .nils] [])), none⟩, ⟨(some 55), (.q (.move (.tmp 13))), none⟩, ⟨none, (.s (.store 3 (.tmp 6) (.tmp 54))), none⟩, ⟨(some 7), (.q (.move (.tmp 55))), none⟩]) .ret) .skip)) 
    (.region [⟨(some 56), (.q (.load true 3 (.tmp 12))), none⟩, ⟨none, (.s (.store 3 (.tmp 11) (.tmp 56))), none⟩])))) .skip)) 
    (.region [⟨(some 57), (.q (.move (.tmp 8))), none⟩, ⟨(some 58), (.q (.load true 3 (.tmp 11))), none⟩, ⟨(some 59), (.s (.lit 25 3 [(.tmp 58)])), none⟩, ⟨(some 60), (.s (.app 25 3 64 (.tmp 57) (.tmp 59))), none⟩, ⟨(some 8), (.q (.move (.tmp 60))), none⟩])))) 
    (.region [⟨(some 27), (.q (.move (.tmp 10))), none⟩, ⟨(some 28), (.q (.bin .add (.tmp 27) (.const (.int .i64 1)))), none⟩, ⟨(some 10), (.q (.move (.tmp 28))), none⟩])))))) 
    (.seq 
    (.seq 
    (.region [⟨(some 61), (.q (.move (.tmp 9))), none⟩, ⟨(some 62), (.q (.un .not (.tmp 61))), none⟩]) 
    (.cond (.tmp 62) 
    (.seq 
    (.region [⟨(some 63), (.q (.build [(.str (B [])), .nils, .nils] [])), none⟩, ⟨none, (.s (.store 3 (.tmp 6) (.tmp 63))), none⟩, ⟨(some 7), (.q (.move (.const (.int .i64 8)))), none⟩]) .ret) .skip)) 
    (.seq 
    (.region [⟨(some 64), (.q (.move (.tmp 8))), none⟩, ⟨(some 65), (.q (.fieldAddr 2 (.tmp 3))), none⟩, ⟨none, (.s (.store 1 (.tmp 65) (.tmp 64))), none⟩]) 
    (.seq 
    (.region [⟨(some 66), (.q (.load true 3 (.tmp 3))), none⟩, ⟨none, (.s (.store 3 (.tmp 6) (.tmp 66))), none⟩, ⟨(some 7), (.q (.move (.const (.int .i64 0)))), none⟩]) .ret))))))))
theorem t48 : Told Tryd.prog 48 67 c48 [(.cell 6 true 3), (.tmp 7)] := ⟨Tryd.f48, _, [], Tryd.func48, rfl, by kernel_rfl, rfl, by kernel_rfl, by kernel_rfl⟩
def c49 : ACode := 
    (.seq 
    (.region [⟨(some 1), (.s (.box 25 (.tmp 0))), none⟩, ⟨(some 2), (.s (.alloc 25 [(.str (B [])), .nils, .nils])), none⟩, ⟨(some 3), (.q (.move (.const (.int .i64 0)))), none⟩]) 
    (.seq 
    (.region [⟨(some 5), (.q (.load true 3 (.tmp 1))), none⟩, ⟨(some 6), (.s (.call 27 [(.tmp 5)])), none⟩, ⟨(some 4), (.s (.alloc 52 [(.int .i64 0), (.int .i64 0), (.int .i64 0)])), none⟩, ⟨none, (.s (.store 3 (.tmp 4) (.tmp 6))), none⟩]) 
    (.seq 
    (.seq 
    (.region [⟨(some 7), (.q (.idxPt 1 3 (.tmp 4) (.const (.int .i64 2)))), none⟩, ⟨(some 8), (.q (.load false 1 (.tmp 7))), none⟩, ⟨(some 9), (.q (.bin .gtr (.tmp 8) (.const (.int .i64 8)))), none⟩]) 
    (.cond (.tmp 9) 
    (.seq 
    (.region [⟨(some 10), (.q (.build [(.str (B [])), .nils, .nils] [])), none⟩, ⟨none, (.s (.store 3 (.tmp 2) (.tmp 10))), none⟩, ⟨(some 3), (.q (.move (.const (.int .i64 13)))), none⟩]) .ret) .skip)) 
    (.seq 
    (.seq 
    (.region [⟨(some 11), (.q (.load true 3 (.tmp 1))), none⟩, ⟨(some 12), (.s (.call 12 [(.tmp 11)])), none⟩, ⟨(some 13), (.q (.un .not (.tmp 12))), none⟩]) 
    (.cond (.tmp 13) 
    (.seq 
    (.region [⟨(some 14), (.q (.build [(.str (B [])), .nils, .nils] [])), none⟩, ⟨none, (.s (.store 3 (.tmp 2) (.tmp 14))), none⟩, ⟨(some 3), (.q (.move (.const (.int .i64 7)))), none⟩]) .ret) .skip)) 
    (.seq 
    (.region [⟨(some 15), (.q (.load true 3 (.tmp 1))), none⟩, ⟨none, (.s (.store 3 (.tmp 2) (.tmp 15))), none⟩, ⟨(some 3), (.q (.move (.const (.int .i64 0)))), none⟩]) .ret)))))
theorem t49 : Told Tryd.prog 49 16 c49 [(.cell 2 true 3), (.tmp 3)] := ⟨Tryd.f49, _, [], Tryd.func49, rfl, by kernel_rfl, rfl, by kernel_rfl, by kernel_rfl⟩
def c23 : ACode := 
    (.seq 
    (.region [⟨(some 3), (.s (.box 25 (.tmp 0))), none⟩, ⟨(some 5), (.s (.box 27 (.tmp 2))), none⟩, ⟨(some 6), (.s (.alloc 25 [(.str (B [])), .nils, .nils])), none⟩, ⟨(some 7), (.q (.move (.const (.int .i64 0)))), none⟩]) 
    (.seq 
    (.region [⟨(some 13), (.q (.move (.tmp 1))), none⟩, ⟨(some 14), (.s (.call 28 [(.tmp 13)])), none⟩, ⟨(some 12), (.q (.move (.tmp 14))), none⟩, ⟨(some 15), (.q (.extract 0 (.tmp 12))), none⟩, ⟨(some 16), (.q (.extract 1 (.tmp 12))), none⟩, ⟨(some 8), (.q (.move (.tmp 15))), none⟩, ⟨(some 9), (.q (.move (.tmp 16))), none⟩]) 
    (.seq 
    (.seq 
    (.region [⟨(some 17), (.q (.move (.tmp 9))), none⟩, ⟨(some 18), (.q (.un .not (.tmp 17))), none⟩]) 
    (.cond (.tmp 18) 
    (.seq 
    (.region [⟨(some 19), (.q (.build [(.str (B [])), .nils, .nils] [])), none⟩, ⟨none, (.s (.store 3 (.tmp 6) (.tmp 19))), none⟩, ⟨(some 7), (.q (.move (.const (.int .i64 8)))), none⟩]) .ret) .skip)) 
    (.seq 
    (.region [⟨(some 21), (.q (.load true 3 (.tmp 3))), none⟩, ⟨(some 22), (.q (.move (.tmp 8))), none⟩, ⟨(some 23), (.q (.load true 3 (.tmp 5))), none⟩, ⟨(some 24), (.s (.call 48 [(.tmp 21), (.tmp 22), (.tmp 23)])), none⟩, ⟨(some 20), (.q (.move (.tmp 24))), none⟩, ⟨(some 25), (.q (.extract 0 (.tmp 20))), none⟩, ⟨(some 26), (.q (.extract 1 (.tmp 20))), none⟩, ⟨(some 10), (.s (.alloc 25 [(.str (B [])), .nils, .nils])), none⟩, ⟨none, (.s (.store 3 (.tmp 10) (.tmp 25))), none⟩, ⟨(some 11), (.q (.move (.tmp 26))), none⟩]) 
    (.seq 
    (.seq 
    (.region [⟨(some 27), (.q (.move (.tmp 11))), none⟩, ⟨(some 28), (.q (.bin .neq (.tmp 27) (.const (.int .i64 0)))), none⟩]) 
    (.cond (.tmp 28) 
    (.seq 
    (.region [⟨(some 29), (.q (.build [(.str (B [])), .nils, .nils] [])), none⟩, ⟨(some 30), (.q (.move (.tmp 11))), none⟩, ⟨none, (.s (.store 3 (.tmp 6) (.tmp 29))), none⟩, ⟨(some 7), (.q (.move (.tmp 30))), none⟩]) .ret) .skip)) 
    (.seq 
    (.region [⟨(some 31), (.q (.load true 3 (.tmp 10))), none⟩, ⟨(some 32), (.s (.call 49 [(.tmp 31)])), none⟩, ⟨(some 33), (.q (.extract 0 (.tmp 32))), none⟩, ⟨(some 34), (.q (.extract 1 (.tmp 32))), none⟩, ⟨none, (.s (.store 3 (.tmp 6) (.tmp 33))), none⟩, ⟨(some 7), (.q (.move (.tmp 34))), none⟩]) .ret))))))
theorem t23 : Told Tryd.prog 23 35 c23 [(.cell 6 true 3), (.tmp 7)] := ⟨Tryd.f23, _, [], Tryd.func23, rfl, by kernel_rfl, rfl, by kernel_rfl, by kernel_rfl⟩
def c24 : ACode := 
    (.seq 
    (.region [⟨(some 2), (.s (.box 25 (.tmp 0))), none⟩, ⟨(some 4), (.s (.alloc 25 [(.str (B [])), .nils, .nils])), none⟩, ⟨(some 5), (.q (.move (.const (.int .i64 0)))), none⟩]) 
    (.seq 
    (.region [⟨(some 10), (.q (.move (.tmp 1))), none⟩, ⟨(some 11), (.s (.call 28 [(.tmp 10)])), none⟩, ⟨(some 9), (.q (.move (.tmp 11))), none⟩, ⟨(some 12), (.q (.extract 0 (.tmp 9))), none⟩, ⟨(some 13), (.q (.extract 1 (.tmp 9))), none⟩, ⟨(some 6), (.q (.move (.tmp 12))), none⟩, ⟨(some 7), (.q (.move (.tmp 13))), none⟩]) 
    (.seq 
    (.seq 
    (.region [⟨(some 14), (.q (.move (.tmp 7))), none⟩, ⟨(some 15), (.q (.un .not (.tmp 14))), none⟩]) 
    (.cond (.tmp 15) 
    (.seq 
    (.region [⟨(some 16), (.q (.build [(.str (B [])), .nils, .nils] [])), none⟩, ⟨none, (.s (.store 3 (.tmp 4) (.tmp 16))), none⟩, ⟨(some 5), (.q (.move (.const (.int .i64 8)))), none⟩]) .ret) .skip)) 
    (.seq 
    (.seq 
    (.region [⟨(some 17), (.q (.move (.tmp 6))), none⟩, ⟨(some 18), (.q (.len false (.tmp 17))), none⟩, ⟨(some 19), (.q (.bin .eql (.tmp 18) (.const (.int .i64 0)))), none⟩]) 
    (.cond (.tmp 19) 
    (.seq 
    (.region [⟨(some 20), (.q (.build [(.str (B [])), .nils, .nils] [])), none⟩, ⟨none, (.s (.store 3 (.tmp 4) (.tmp 20))), none⟩, ⟨(some 5), (.q (.move (.const (.int .i64 1)))), none⟩]) .ret) .skip)) 
    (.seq 
    (.region [⟨(some 21), (.q (.move (.tmp 6))), none⟩, ⟨(some 22), (.q (.len false (.tmp 21))), none⟩, ⟨(some 23), (.q (.bin .sub (.tmp 22) (.const (.int .i64 1)))), none⟩, ⟨(some 8), (.q (.move (.tmp 23))), none⟩]) 
    (.seq 
    (.region [⟨(some 24), (.q (.load true 3 (.tmp 2))), none⟩, ⟨(some 25), (.q (.move (.tmp 6))), none⟩, ⟨(some 26), (.q (.move (.tmp 8))), none⟩, ⟨(some 27), (.q (.sliceSl 1 (.tmp 25) none (some (.tmp 26)))), none⟩, ⟨(some 28), (.c (.fn 50) [(.tmp 27)]), none⟩, ⟨(some 29), (.q (.move (.tmp 6))), none⟩, ⟨(some 30), (.q (.move (.tmp 8))), none⟩, ⟨(some 31), (.q (.idxSl 1 (.tmp 29) (.tmp 30))), none⟩, ⟨(some 32), (.q (.load false 1 (.tmp 31))), none⟩, ⟨(some 33), (.q (.build [(.int .i64 0), (.str (B [])), (.str (B []))] [(0, (1, (.const (.int .i64 4)))), (1, (1, (.tmp 32)))])), none⟩, ⟨(some 34), (.s (.call 23 [(.tmp 24), (.tmp 28), (.tmp 33)])), none⟩, ⟨(some 35), (.q (.extract 0 (.tmp 34))), none⟩, ⟨(some 36), (.q (.extract 1 (.tmp 34))), none⟩, ⟨none, (.s (.store 3 (.tmp 4) (.tmp 35))), none⟩, ⟨(some 5), (.q (.move (.tmp 36))), none⟩]) .ret))))))
theorem t24 : Told Tryd.prog 24 37 c24 [(.cell 4 true 3), (.tmp 5)] := ⟨Tryd.f24, _, [], Tryd.func24, rfl, by kernel_rfl, rfl, by kernel_rfl, by kernel_rfl⟩
def c25 : ACode := 
    (.seq 
    (.region [⟨(some 2), (.s (.box 25 (.tmp 0))), none⟩, ⟨(some 4), (.s (.alloc 25 [(.str (B [])), .nils, .nils])), none⟩, ⟨(some 5), (.q (.move (.const (.int .i64 0)))), none⟩]) 
    (.seq 
    (.region [⟨(some 14), (.q (.move (.tmp 1))), none⟩, ⟨(some 15), (.s (.call 28 [(.tmp 14)])), none⟩, ⟨(some 13), (.q (.move (.tmp 15))), none⟩, ⟨(some 16), (.q (.extract 0 (.tmp 13))), none⟩, ⟨(some 17), (.q (.extract 1 (.tmp 13))), none⟩, ⟨(some 6), (.q (.move (.tmp 16))), none⟩, ⟨(some 7), (.q (.move (.tmp 17))), none⟩]) 
    (.seq 
    (.seq 
    (.region [⟨(some 18), (.q (.move (.tmp 7))), none⟩, ⟨(some 19), (.q (.un .not (.tmp 18))), none⟩]) 
    (.cond (.tmp 19) 
    (.seq 
    (.region [⟨(some 20), (.q (.build [(.str (B [])), .nils, .nils] [])), none⟩, ⟨none, (.s (.store 3 (.tmp 4) (.tmp 20))), none⟩, ⟨(some 5), (.q (.move (.const (.int .i64 8)))), none⟩]) .ret) .skip)) 
    (.seq 
    (.seq 
    (.region [⟨(some 8), (.q (.move (.const (.int .i64 0)))), none⟩]) 
    (.block 0 
    (.loop 
    (.seq 
    (.seq 
    (.region [⟨(some 21), (.q (.move (.tmp 8))), none⟩, ⟨(some 22), (.q (.move (.tmp 6))), none⟩, ⟨(some 23), (.q (.len false (.tmp 22))), none⟩, ⟨(some 24), (.q (.bin .lss (.tmp 21) (.tmp 23))), none⟩]) 
    (.cond (.tmp 24) .skip (.exit 0))) 
    (.seq 
    (.block 1 
    (.seq 
    (.seq 
    (.regionN 10 [⟨(some 28), (.q (.load true 3 (.tmp 2))), none⟩, ⟨(some 29), (.q (.move (.tmp 6))), none⟩, ⟨(some 30), (.q (.move (.tmp 8))), none⟩, ⟨(some 31), (.q (.bin .add (.tmp 30) (.const (.int .i64 1)))), none⟩, ⟨(some 32), (.q (.sliceSl 1 (.tmp 29) none (some (.tmp 31)))), none⟩, ⟨(some 33), (.c (.fn 50) [(.tmp 32)]), none⟩, ⟨(some 9), (.q (.move (.const .top))), none⟩, ⟨(some 34), (.s (.call 13 [(.tmp 28), (.tmp 33)])), none⟩, ⟨(some 27), (.q (.move (.tmp 34))), none⟩, ⟨(some 35), (.q (.extract 0 (.tmp 27))), none⟩, ⟨(some 36), (.q (.extract 1 (.tmp 27))), none⟩, ⟨(some 9), (.s (.put 25 3 (.tmp 35))), none⟩, ⟨(some 10), (.q (.move (.tmp 36))), none⟩]) 
    (.seq 
    (.region [⟨(some 37), (.q (.move (.tmp 10))), none⟩]) 
    (.cond (.tmp 37) (.exit 1) .skip))) 
    (.seq 
    (.regionN 12 [⟨(some 39), (.q (.load true 3 (.tmp 2))), none⟩, ⟨(some 40), (.q (.move (.tmp 6))), none⟩, ⟨(some 41), (.q (.move (.tmp 8))), none⟩, ⟨(some 42), (.q (.sliceSl 1 (.tmp 40) none (some (.tmp 41)))), none⟩, ⟨(some 43), (.c (.fn 50) [(.tmp 42)]), none⟩, ⟨(some 44), (.q (.move (.tmp 6))), none⟩, ⟨(some 45), (.q (.move (.tmp 8))), none⟩, ⟨(some 46), (.q (.idxSl 1 (.tmp 44) (.tmp 45))), none⟩, ⟨(some 47), (.q (.load false 1 (.tmp 46))), none⟩, ⟨(some 48), (.q (.build [(.int .i64 0), (.str (B [])), (.str (B []))] [(0, (1, (.const (.int .i64 3)))), (1, (1, (.tmp 47)))])), none⟩, ⟨(some 11), (.q (.move (.const .top))), none⟩, ⟨(some 49), (.s (.call 23 [(.tmp 39), (.tmp 43), (.tmp 48)])), none⟩, ⟨(some 38), (.q (.move (.tmp 49))), none⟩, ⟨(some 50), (.q (.extract 0 (.tmp 38))), none⟩, ⟨(some 51), (.q (.extract 1 (.tmp 38))), none⟩, ⟨(some 11), (.s (.put 25 3 (.tmp 50))), none⟩, ⟨(some 12), (.q (.move (.tmp 51))), none⟩]) 
    (.seq 
    (.seq 
    (.region [⟨(some 52), (.q (.move (.tmp 12))), none⟩, ⟨(some 53), (.q (.bin .neq (.tmp 52) (.const (.int .i64 0)))), none⟩]) 
    (.cond (.tmp 53) 
    (.seq 
    (.region [⟨(some 54), (.q (.build [(.str (B [])), .nils, .nils] [])), none⟩, ⟨(some 55), (.q (.move (.tmp 12))), none⟩, ⟨none, (.s (.store 3 (.tmp 4) (.tmp 54))), none⟩, ⟨(some 5), (.q (.move (.tmp 55))), none⟩]) .ret) .skip)) 
    (.region [⟨(some 56), (.q (.load true 3 (.tmp 11))), none⟩, ⟨none, (.s (.store 3 (.tmp 2) (.tmp 56))), none⟩]))))) 
    (.region [⟨(some 25), (.q (.move (.tmp 8))), none⟩, ⟨(some 26), (.q (.bin .add (.tmp 25) (.const (.int .i64 1)))), none⟩, ⟨(some 8), (.q (.move (.tmp 26))), none⟩])))))) 
    (.seq 
    (.region [⟨(some 57), (.q (.load true 3 (.tmp 2))), none⟩, ⟨(some 58), (.s (.call 49 [(.tmp 57)])), none⟩, ⟨(some 59), (.q (.extract 0 (.tmp 58))), none⟩, ⟨(some 60), (.q (.extract 1 (.tmp 58))), none⟩, ⟨none, (.s (.store 3 (.tmp 4) (.tmp 59))), none⟩, ⟨(some 5), (.q (.move (.tmp 60))), none⟩]) .ret)))))
theorem t25 : Told Tryd.prog 25 61 c25 [(.cell 4 true 3), (.tmp 5)] := ⟨Tryd.f25, _, [], Tryd.func25, rfl, by kernel_rfl, rfl, by kernel_rfl, by kernel_rfl⟩
def c80 : ACode := 
    (.seq 
    (.region [⟨(some 2), (.q (.move (.const (.bool false)))), none⟩]) 
    (.seq 
    (.seq 
    (.region [⟨(some 3), (.q (.move (.const (.int .i64 0)))), none⟩]) 
    (.block 0 
    (.loop 
    (.seq 
    (.seq 
    (.region [⟨(some 4), (.q (.move (.tmp 3))), none⟩, ⟨(some 5), (.q (.move (.tmp 0))), none⟩, ⟨(some 6), (.q (.len true (.tmp 5))), none⟩, ⟨(some 7), (.q (.bin .lss (.tmp 4) (.tmp 6))), none⟩]) 
    (.cond (.tmp 7) .skip (.exit 0))) 
    (.seq 
    (.block 1 
    (.seq 
    (.region [⟨(some 10), (.q (.move (.tmp 0))), none⟩, ⟨(some 11), (.q (.move (.tmp 3))), none⟩, ⟨(some 12), (.q (.idxStr (.tmp 10) (.tmp 11))), none⟩, ⟨(some 13), (.q (.bin .eql (.tmp 12) (.const (.int .u8 47)))), none⟩]) 
    (.cond (.tmp 13) 
    (.seq 
    (.region [⟨(some 2), (.q (.move (.const (.bool false)))), none⟩]) .ret) .skip))) 
    (.region [⟨(some 8), (.q (.move (.tmp 3))), none⟩, ⟨(some 9), (.q (.bin .add (.tmp 8) (.const (.int .i64 1)))), none⟩, ⟨(some 3), (.q (.move (.tmp 9))), none⟩])))))) 
    (.seq 
    (.region [⟨(some 14), (.q (.move (.tmp 0))), none⟩, ⟨(some 15), (.s (.call 78 [(.tmp 14)])), none⟩, ⟨(some 2), (.q (.move (.tmp 15))), none⟩]) .ret)))
theorem t80 : Told Tryd.prog 80 16 c80 [(.tmp 2)] := ⟨Tryd.f80, _, [], Tryd.func80, rfl, by kernel_rfl, rfl, by kernel_rfl, by kernel_rfl⟩
section
variable {g : Ghost} {w : World} {H : AHeap}
/-- A row's cells, and as many unknown ones as there is room for. -/
def padC (n : Nat) (cs : List AV) : List AV := cs ++ List.replicate (n - cs.length) .top
theorem padC_len (n : Nat) (cs : List AV) : n ≤ (padC n cs).length := by unfold padC; rw [List.length_append, List.length_replicate]; omega
theorem padC_take (n : Nat) (cs : List AV) {m : Nat} (h : m ≤ cs.length) : (padC n cs).take m = cs.take m := List.take_append_of_le_length h
theorem reps_set {vs : Array Value} {pre post : List AV} {y z : AV} (h : Reps g w vs (pre ++ y :: post)) (hz : ∀ v, vs[pre.length]? = some v → Rep g w v z) : Reps g w vs (pre ++ z :: post) := Reps.replace (Ext.refl g w) h hz
/-- A call that is handed a slice of one's own may be told with its capacity. -/
theorem acalls_cap {P : Program} {f id gen off len sz : Nat} {e : TypeId} {cs : List AV} {pre post : List AV} {K : AV → AHeap → Prop} (hg : H.get id = some (.row e gen cs))
    (h : ∀ cap, len ≤ cap → cap ≤ 9223372036854775807 → ACalls P f (pre ++ .wc id gen off len cap sz :: post) (H.set id (.row e gen (padC (off + cap * sz) cs))) K) : ACalls P f (pre ++ .wr id gen off len sz :: post) H K := by
  intro g w vs hS hR
  have hlt : pre.length < vs.size := by rw [hR.1]; simp
  have hr := hR.2 pre.length vs[pre.length] (.wr id gen off len sz) (Array.getElem?_eq_getElem hlt) (by simp)
  obtain ⟨b, c, e', n, hv, h1, h2, h3, h4, h5⟩ := hr.wr_inv
  have hlive := hS.live id _ hg
  have hobj : RepObj g w id (.row e gen (padC (off + c * sz) cs)) := by
    obtain ⟨b', cur, lo, hi, q1, q2, q3, q4, q5⟩ := hlive
    rw [h1] at q1
    obtain rfl := Option.some.inj q1
    have hn : cur.size = n := by
      unfold World.shape? at h2
      rw [q2] at h2
      simp only [Option.some.injEq, Prod.mk.injEq] at h2
      exact h2.2
    refine ⟨b, cur, lo, hi, h1, q2, q3, by unfold padC; rw [List.length_append, List.length_replicate]; omega, fun i y hy => ?_⟩
    unfold padC at hy
    by_cases hi1 : i < cs.length
    · rw [List.getElem?_append_left hi1] at hy
      exact q5 i y hy
    · rw [List.getElem?_append_right (by omega), List.getElem?_replicate] at hy
      split at hy
      · obtain rfl := Option.some.inj hy
        have : i < cur.size := by omega
        exact ⟨cur[i], Array.getElem?_eq_getElem this, .top _⟩
      · cases hy
  refine h c h4 h5 g w vs (sim_repad hS hg hobj) (reps_set hR (fun v hv2 => ?_))
  rw [Array.getElem?_eq_getElem hlt] at hv2
  obtain rfl := Option.some.inj hv2
  rw [hv]
  exact .wc id gen off len c sz b e' n h1 h2 h3 h4 h5
end
theorem flat_take {sz : Nat} : ∀ (xs : List AV) (i : Nat), (∀ x ∈ xs, x.cells.length = sz) → i ≤ xs.length → (xs.flatMap AV.cells).take (i * sz) = (xs.take i).flatMap AV.cells
  | [], i, _, h => by
    have : i = 0 := by simpa using h
    subst this
    simp
  | x :: xs, 0, _, _ => by simp
  | x :: xs, i + 1, hx, h => by
    have h1 := hx x List.mem_cons_self
    rw [List.flatMap_cons, List.take_succ_cons, List.flatMap_cons, List.take_append, List.take_of_length_le (by rw [h1, Nat.succ_mul]; omega), h1, show (i + 1) * sz - sz = i * sz by rw [Nat.succ_mul]; omega, flat_take xs i (fun y hy => hx y (List.mem_cons_of_mem _ hy)) (by simpa using h)]
theorem flat_drop {sz : Nat} : ∀ (xs : List AV) (i : Nat), (∀ x ∈ xs, x.cells.length = sz) → i ≤ xs.length → (xs.flatMap AV.cells).drop (i * sz) = (xs.drop i).flatMap AV.cells
  | [], i, _, h => by
    have : i = 0 := by simpa using h
    subst this
    simp
  | x :: xs, 0, _, _ => by simp
  | x :: xs, i + 1, hx, h => by
    have h1 := hx x List.mem_cons_self
    rw [List.flatMap_cons, List.drop_succ_cons, List.drop_append, List.drop_of_length_le (by rw [h1, Nat.succ_mul]; omega), List.nil_append, h1, show (i + 1) * sz - sz = i * sz by rw [Nat.succ_mul]; omega, flat_drop xs i (fun y hy => hx y (List.mem_cons_of_mem _ hy)) (by simpa using h)]
theorem slat_low {n0 n1 : Nat} {G : AHeap} {e sz : Nat} {v : AV} {xs : List AV} (h : SlAt n1 G e sz v xs) (hn : n0 ≤ n1) : SlAt n0 G e sz v xs := by
  rcases h with h | ⟨id, gen, h1, h2, h3⟩
  · exact .inl h
  · exact .inr ⟨id, gen, h1, Nat.le_trans hn h2, h3⟩
theorem slat_nid {n0 : Nat} {G : AHeap} {e sz : Nat} {v : AV} {xs : List AV} (h : SlAt n0 G e sz v xs) {j : Nat} (hj : j < n0) : ∀ gen off len sz, v ≠ .wr j gen off len sz := by
  intro gen off len sz' hv
  rcases h with ⟨rfl, _⟩ | ⟨id, gen', rfl, hid, _⟩
  · cases hv
  · cases hv
    omega
section
variable {H : AHeap} {K : AV → AHeap → Prop}
end
end Go.Proofs.YtdknpnmdjjmapaaDoor.AL
