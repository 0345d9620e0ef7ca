/- Trees told: counting them. -/
import Derived.Test.YtmdgjfadbhenjaaGreatDoorQCellsUpALDPat
import Derived.Test.YtmdgjfadbhenjaaGreatDoorQCellsUpALA4
import Derived.Test.YtmdgjfadbhenjaaGreatDoorQCellsUpALA3
import Derived.Test.YtmdgjfadbhenjaaGreatDoorProg
import Derived.KernelRfl
set_option linter.unusedSimpArgs false
set_option linter.unusedVariables false
set_option maxRecDepth 100000
set_option maxHeartbeats 16000000
namespace Go.Proofs.YtmdgjfadbhenjaaGreatDoor.AL
open Go Go.Proofs
attribute [local go_sem] go_seq go_skip go_region go_regionN go_fregion rgF_some go_cond go_block go_exit go_ret nxt_nil nxt_code nxt_blk nxt_cut leave_nil leave_code leave_cut leave_blk rtn_nil rtn_code rtn_blk rtn_cut cnd_t cnd_f rgn_nil rgY_some rgY_none rgH_some rgP_some retTo_is rgV_func grd_und grd_tt grd_ff grd_tf grd_ft rgn_q rgn_alloc rgn_box rgn_store rgn_lit rgn_litw rgn_litc litCells_nil litCells_cons rgn_app rgn_copy rgn_mk rgn_s2b rgn_call rgn_callv rgn_stop rgn_slice3 aslice3 rgn_slice3l aslice3l rgn_appz rgn_clear rgn_range rgn_next arange acap rgn_put rgn_mkmap rgn_lookup rgn_mapup alookup_nilm alookup_map amapup_map afound_ok afound_no rgn_c rgn_cv qclV_func aloadr rgn_guard post_ret post_normal retY_some ares aresL ares1 AX.ev aput List.getD_cons_zero List.getD_cons_succ List.set_cons_zero List.set_cons_succ List.map_cons List.map_nil aq abin aint astr abeq aconv asame aextract alenS alenL_nils alenL_emp alenL_imm alenL_wr alenL_wc aun apart aload afieldAddr afield aidxSl_wr aidxSl_wc aidxSl_imm aidxPt aidxStr aidxArr abound asliceStr asliceSl asliceArr abest anonil afill astore acells_nils acells_emp acells_imm acells_wr acells_wc acells_str acopy litAll amk as2b anil nilOf aseq aeqs aeqv fits fit1 hp_next hp_push hp_get hp_set List.length_cons List.length_nil List.getElem?_cons_zero List.getElem?_cons_succ List.cons_append List.nil_append List.append_nil List.take_succ_cons List.take_zero List.drop_succ_cons List.drop_zero List.all_cons List.all_nil Option.map_some Option.some.injEq Bool.and_true Bool.true_and Bool.false_eq_true if_true if_false ite_true ite_false Bool.and_self true_and and_true and_self Nat.zero_add Nat.le_refl Int.toNat_natCast beq_self_eq_true eq_self tops_zero tops_succ Int.natCast_nonneg List.take_nil List.drop_nil Option.map_none flat_bool one_bool cells_bool flat_int one_int cells_int flat_str one_str cells_str flat_nilp one_nilp cells_nilp flat_ptr one_ptr cells_ptr flat_nils one_nils cells_nils flat_imm one_imm cells_imm flat_wr one_wr cells_wr flat_wc one_wc cells_wc flat_func one_func cells_func flat_nilf one_nilf cells_nilf flat_map one_map cells_map flat_nilm one_nilm cells_nilm flat_iface one_iface cells_iface flat_nili one_nili cells_nili flat_rd one_rd cells_rd flat_emp one_emp cells_emp flat_byteV one_byteV cells_byteV flat_agg cells_agg one_agg B_size B_list B_ext B_toList B_app List.take_length Int.le_refl
/-- A tree; kp and kk: what its slices are where they have nothing (nil, or empty). -/
inductive Tr where
  | mk (name : List UInt8) (kp : Nat) (props : List (List UInt8 × List UInt8)) (kk : Nat) (kids : List Tr)
def Tr.name : Tr → List UInt8
  | .mk n _ _ _ _ => n
def Tr.kp : Tr → Nat
  | .mk _ k _ _ _ => k
def Tr.props : Tr → List (List UInt8 × List UInt8)
  | .mk _ _ p _ _ => p
def Tr.kk : Tr → Nat
  | .mk _ _ _ k _ => k
def Tr.kids : Tr → List Tr
  | .mk _ _ _ _ ks => ks
def propV (p : List UInt8 × List UInt8) : AV := .agg [.str (B p.1), .str (B p.2)]
theorem propV_cells (p : List UInt8 × List UInt8) : (propV p).cells = [.str (B p.1), .str (B p.2)] := rfl
mutual
def Tr.cells : Tr → List AV
  | .mk n kp ps kk ks => [.str (B n), slA kp 2 (ps.map propV), slA kk 3 (Tr.Vs ks)]
def Tr.Vs : List Tr → List AV
  | [] => []
  | t :: ts => .agg t.cells :: Tr.Vs ts
end
def Tr.V (t : Tr) : AV := .agg t.cells
theorem Tr.Vs_is : ∀ ks : List Tr, Tr.Vs ks = ks.map Tr.V
  | [] => by rw [Tr.Vs]; rfl
  | t :: ts => by rw [Tr.Vs, Tr.Vs_is ts]; rfl
theorem Tr.cells_is (t : Tr) : t.cells = [.str (B t.name), slA t.kp 2 (t.props.map propV), slA t.kk 3 (t.kids.map Tr.V)] := by
  cases t with
  | mk n kp ps kk ks => rw [Tr.cells, Tr.Vs_is]; rfl
theorem Tr.V_is (t : Tr) : t.V = .agg [.str (B t.name), slA t.kp 2 (t.props.map propV), slA t.kk 3 (t.kids.map Tr.V)] := by rw [Tr.V, Tr.cells_is]
theorem Tr.V_cells (t : Tr) : t.V.cells = [.str (B t.name), slA t.kp 2 (t.props.map propV), slA t.kk 3 (t.kids.map Tr.V)] := by rw [Tr.V_is]; rfl
theorem props_u (n : Nat) (ps : List (List UInt8 × List UInt8)) : AllC n (ps.map propV) := uc_map n ps (fun p => by rw [propV_cells]; simp only [u_top, u_bool, u_int, u_str, u_nilp, u_nils, u_nilf, u_nilm, u_nili, u_emp, u_byteV, u_ptr, u_wr, u_wc, u_agg, u_tup, u_rd, u_imm, u_func, u_nil, u_cons, u_app, uc_nil, uc_cons, uc_app, u_bytes, uc_bytes, u_ints, uc_ints, cells_bool, cells_int, cells_str, cells_agg, cells_ptr, cells_nils, cells_imm, cells_wr, cells_wc, cells_nilp, cells_nilf, cells_nilm, cells_rd, cells_emp, cells_byteV, cells_func, and_self, and_true, true_and, u_slA, uc_strs, cells_slA, strV_is])
mutual
theorem Tr.cu (n : Nat) : ∀ t : Tr, AllU n t.cells
  | .mk nm kp ps kk ks => by
    rw [Tr.cells]
    simp only [u_cons, u_nil, u_str, u_slA, and_true, true_and]
    exact ⟨props_u n ps, Tr.csu n ks⟩
theorem Tr.csu (n : Nat) : ∀ ks : List Tr, AllC n (Tr.Vs ks)
  | [] => by rw [Tr.Vs, uc_nil]; trivial
  | t :: ts => by
    rw [Tr.Vs, uc_cons]
    exact ⟨Tr.cu n t, Tr.csu n ts⟩
end
theorem Tr.V_u (n : Nat) (t : Tr) : t.V.under n := by rw [Tr.V, u_agg]; exact Tr.cu n t
theorem kids_u (n : Nat) (t : Tr) : AllC n (t.kids.map Tr.V) := by
  have := Tr.cu n t
  rw [Tr.cells_is] at this
  simp only [u_cons, u_nil, u_str, u_slA, and_true, true_and] at this
  exact this.2
def tr0 : Tr := .mk [] 0 [] 0 []
theorem tr_at {ls : List Tr} {i : Nat} (h : i < ls.length) : (ls.map Tr.V)[i]? = some (Tr.V (ls.getD i tr0)) := by
  rw [List.getElem?_map, List.getD_eq_getElem?_getD, List.getElem?_eq_getElem h]
  rfl
theorem prop_at {ls : List (List UInt8 × List UInt8)} {i : Nat} (h : i < ls.length) : (ls.map propV)[i]? = some (propV (ls.getD i ([], []))) := by
  rw [List.getElem?_map, List.getD_eq_getElem?_getD, List.getElem?_eq_getElem h]
  rfl
/-- Sizes that can be. -/
inductive TrOk : Tr → Prop
  | mk (name : List UInt8) (kp : Nat) (props : List (List UInt8 × List UInt8)) (kk : Nat) (kids : List Tr) : name.length ≤ 9223372036854775807 → props.length ≤ 9223372036854775807 → (∀ p ∈ props, p.1.length ≤ 9223372036854775807 ∧ p.2.length ≤ 9223372036854775807) → kids.length ≤ 9223372036854775807 → (∀ k ∈ kids, TrOk k) → TrOk (.mk name kp props kk kids)
theorem TrOk.n {t : Tr} (h : TrOk t) : t.name.length ≤ 9223372036854775807 := by cases h; assumption
theorem TrOk.p {t : Tr} (h : TrOk t) : t.props.length ≤ 9223372036854775807 := by cases h; assumption
theorem TrOk.k {t : Tr} (h : TrOk t) : t.kids.length ≤ 9223372036854775807 := by cases h; assumption
theorem TrOk.ps {t : Tr} (h : TrOk t) : ∀ p ∈ t.props, p.1.length ≤ 9223372036854775807 ∧ p.2.length ≤ 9223372036854775807 := by cases h; assumption
theorem TrOk.ks {t : Tr} (h : TrOk t) : ∀ k ∈ t.kids, TrOk k := by cases h; assumption
theorem tr_mem {l : List Tr} {i : Nat} (h : i < l.length) : l.getD i tr0 ∈ l := by
  rw [List.getD_eq_getElem?_getD, List.getElem?_eq_getElem h]
  exact List.getElem_mem _
def trRow (t : Tr) : AObj := .row 25 0 [.str (B t.name), slA t.kp 2 (t.props.map propV), slA t.kk 3 (t.kids.map Tr.V)]
theorem trRow_is (t : Tr) : trRow t = .row 25 0 [.str (B t.name), slA t.kp 2 (t.props.map propV), slA t.kk 3 (t.kids.map Tr.V)] := rfl
/-! ### how big it is -/
/-! ### low trees -/
def plow (p : List UInt8 × List UInt8) : Bool := decide (p.1.length ≤ 100) && decide (p.2.length ≤ 300)
def tlow : Nat → Tr → Bool
  | 0, _ => false
  | l + 1, t => decide (t.name.length ≤ 100) && decide (t.props.length ≤ 300) && decide (t.kids.length ≤ 80) && t.props.all plow && t.kids.all (tlow l)
theorem low_a : ∀ (l : Nat) (t : Tr) (H : AHeap) (K : AV → AHeap → Prop), l ≤ 100 → TrOk t → K (.bool (tlow l t)) H → (ACalls Tryz.prog) 59 [t.V, .int .i64 (l : Int)] H K
  | 0, t, H, K, hl, ho, h => by
    refine acalls_go mo t59 (fun hs hu => ?_)
    rw [tlow] at h
    simp only [c59, Tr.V_is, Int.ofNat_zero, Int.natCast_zero, go_sem, Nat.reduceLeDiff, Nat.reduceAdd, Nat.reduceSub, Nat.reduceMul, Nat.reduceLT, Int.reduceLT, Int.reduceLE, Int.reduceAdd, Int.reduceSub, Int.reduceMul, Int.reduceToNat, Int.reduceNeg, Int.reduceEq, Nat.reducePow, Int.reducePow, Nat.reduceEqDiff, decide_true, decide_false, reduceIte, reduceCtorEq, Int.reduceBEq, Int.reduceBNe, bne_self_eq_false, Int.cast_ofNat_Int, Bool.not_true, Bool.not_false, IntKind.bits]
    exact aret_u hs (h)
  | l + 1, t, H, K, hl, ho, h => by
    refine acalls_go mo t59 (fun hs hu => ?_)
    have ih := low_a l
    rw [tlow] at h
    have hkl := ho.k
    have hpl := ho.p
    simp only [c59, Tr.V_is, go_sem, Nat.reduceLeDiff, Nat.reduceAdd, Nat.reduceSub, Nat.reduceMul, Nat.reduceLT, Int.reduceLT, Int.reduceLE, Int.reduceAdd, Int.reduceSub, Int.reduceMul, Int.reduceToNat, Int.reduceNeg, Int.reduceEq, Nat.reducePow, Int.reducePow, Nat.reduceEqDiff, decide_true, decide_false, reduceIte, reduceCtorEq, Int.reduceBEq, Int.reduceBNe, bne_self_eq_false, Int.cast_ofNat_Int, Bool.not_true, Bool.not_false, IntKind.bits]
    by_cases h1 : t.name.length ≤ 100
    · by_cases h2 : t.props.length ≤ 300
      · by_cases h3 : t.kids.length ≤ 80
        · rw [decide_eq_true h1, decide_eq_true h2, decide_eq_true h3, Bool.true_and, Bool.true_and, Bool.true_and] at h
          refine stp0 ?_
          refine go_loopS mono (σ := Nat) (fun i => [(5, .int .i64 (i : Int))]) (fun i => hp H [trRow t]) (fun i => i ≤ t.props.length ∧ (t.props.take i).all plow = true) (fun i => t.props.length - i) 0 ?_ rfl ⟨Nat.zero_le _, rfl⟩ (fun i hi J hJ => ?_)
          · exact fgt
          obtain ⟨hil, hall⟩ := hi
          simp only [blurR_nil, blurR_some, blurR_none, blurC_region, blurC_regionN, blurC_fregion, blurT_nil, blurT_cons, blurC_seq, blurC_both, blurC_cond, blurC_block, blurC_loop, blurC_skip, blurC_exit, blurC_ret, tellS_nil, tellS_cons, List.set_cons_zero, List.set_cons_succ, tops_zero, tops_succ]
          by_cases h4 : i < t.props.length
          · have ha := prop_at h4
            have hst := all_step (p := plow) (d := ([], [])) h4
            have hno := all_stop (p := plow) (n := t.props.length) (d := ([], [])) h4 h4
            have hJ2 : plow (t.props.getD i ([], [])) = true → ∀ a', _ := fun hq a' => hJ (i + 1) a' ⟨h4, by rw [hst, hall, hq]; rfl⟩ (by omega)
            have hstop : plow (t.props.getD i ([], [])) = false → K (.bool false) H := fun hq => by
              have h9 := hno hq
              rw [List.take_length] at h9
              rw [h9, Bool.false_and] at h
              exact h
            clear hJ hst hno h
            generalize t.props.getD i ([], []) = p at *
            unfold plow at hJ2 hstop
            by_cases h5 : p.1.length ≤ 100
            · by_cases h6 : p.2.length ≤ 300
              · refine stp (And.intro ha (And.intro @propV_cells @trRow_is)) ?_
                exact hJ2 (by rw [decide_eq_true h5, decide_eq_true h6]; rfl) _ fgt
              · have h := hstop (by rw [decide_eq_false h6, Bool.and_false])
                refine stp (And.intro ha (And.intro @propV_cells @trRow_is)) ?_
                exact aret_u hs (h)
            · have h := hstop (by rw [decide_eq_false h5, Bool.false_and])
              refine stp (And.intro ha (And.intro @propV_cells @trRow_is)) ?_
              exact aret_u hs (h)
          · rw [List.take_of_length_le (by omega)] at hall
            rw [hall, Bool.true_and] at h
            clear hJ
            refine stp @trRow_is ?_
            refine go_loopS mono (σ := Nat) (fun i => [(6, .int .i64 (i : Int))]) (fun i => hp H [trRow t]) (fun i => i ≤ t.kids.length ∧ (t.kids.take i).all (tlow l) = true) (fun i => t.kids.length - i) 0 ?_ rfl ⟨Nat.zero_le _, rfl⟩ (fun i2 hi J hJ => ?_)
            · exact fgt
            obtain ⟨hil2, hall2⟩ := hi
            simp only [blurR_nil, blurR_some, blurR_none, blurC_region, blurC_regionN, blurC_fregion, blurT_nil, blurT_cons, blurC_seq, blurC_both, blurC_cond, blurC_block, blurC_loop, blurC_skip, blurC_exit, blurC_ret, tellS_nil, tellS_cons, List.set_cons_zero, List.set_cons_succ, tops_zero, tops_succ]
            by_cases h7 : i2 < t.kids.length
            · have ha := tr_at h7
              have hok := ho.ks _ (tr_mem h7)
              have hst := all_step (p := tlow l) (d := tr0) h7
              have hno := all_stop (p := tlow l) (n := t.kids.length) (d := tr0) h7 h7
              generalize t.kids.getD i2 tr0 = k at *
              have hVc := Tr.V_cells k
              have hVi := Tr.V_is k
              refine stp (And.intro ha (And.intro hVc @trRow_is)) ?_
              rw [← hVi]
              refine ih _ _ _ (by omega) hok ?_
              cases h8 : tlow l k with
              | true =>
                refine stp0 ?_
                exact hJ (i2 + 1) _ ⟨h7, by rw [hst, hall2, h8]; rfl⟩ (by omega) fgt
              | false =>
                have h9 := hno h8
                rw [List.take_length] at h9
                rw [h9] at h
                refine stp0 ?_
                exact aret_u hs (h)
            · rw [List.take_of_length_le (by omega)] at hall2
              rw [hall2] at h
              refine stp @trRow_is ?_
              exact aret_u hs (h)
        · rw [decide_eq_false h3, Bool.and_false, Bool.false_and, Bool.false_and] at h
          refine stp0 ?_
          exact aret_u hs (h)
      · rw [decide_eq_false h2, Bool.and_false, Bool.false_and, Bool.false_and, Bool.false_and] at h
        refine stp0 ?_
        exact aret_u hs (h)
    · rw [decide_eq_false h1, Bool.false_and, Bool.false_and, Bool.false_and, Bool.false_and] at h
      refine stp0 ?_
      exact aret_u hs (h)
def szLoop (f : Tr → Nat) : Nat → List Tr → Nat
  | a, [] => a
  | a, k :: ks => if a < 1000 then szLoop f (a + f k) ks else a
def tsize : Nat → Tr → Nat
  | 0, _ => 0
  | l + 1, t => szLoop (tsize l) (1 + t.props.length) t.kids
theorem szLoop_le (f : Tr → Nat) (b : Nat) : ∀ (ks : List Tr) (a : Nat), (∀ k ∈ ks, f k ≤ b) → szLoop f a ks ≤ max a (999 + b)
  | [], a, _ => by rw [szLoop]; omega
  | k :: ks, a, h => by
    rw [szLoop]
    split
    · have := szLoop_le f b ks (a + f k) (fun x hx => h x (by simp [hx]))
      have := h k (by simp)
      omega
    · omega
theorem tsize_le : ∀ (l : Nat) (t : Tr), tlow l t = true → tsize l t ≤ 1000 * l
  | 0, t, h => by rw [tsize]; omega
  | l + 1, t, h => by
    rw [tlow] at h
    simp only [Bool.and_eq_true, decide_eq_true_eq, List.all_eq_true] at h
    have := szLoop_le (tsize l) (1000 * l) t.kids (1 + t.props.length) (fun k hk => tsize_le l k (h.2 k hk))
    rw [tsize]
    omega
theorem size_a : ∀ (l : Nat) (t : Tr) (H : AHeap) (K : AV → AHeap → Prop), l ≤ 100 → TrOk t → tlow l t = true → K (.int .i64 (tsize l t : Int)) H → (ACalls Tryz.prog) 60 [t.V, .int .i64 (l : Int)] H K
  | 0, t, H, K, hl, ho, hw, h => by
    rw [tlow] at hw
    cases hw
  | l + 1, t, H, K, hl, ho, hw, h => by
    refine acalls_go mo t60 (fun hs hu => ?_)
    have ih := size_a l
    rw [tsize] at h
    rw [tlow] at hw
    simp only [Bool.and_eq_true, decide_eq_true_eq, List.all_eq_true] at hw
    obtain ⟨⟨⟨⟨w1, w2⟩, w3⟩, w4⟩, w5⟩ := hw
    simp only [c60, Tr.V_is, go_sem, Nat.reduceLeDiff, Nat.reduceAdd, Nat.reduceSub, Nat.reduceMul, Nat.reduceLT, Int.reduceLT, Int.reduceLE, Int.reduceAdd, Int.reduceSub, Int.reduceMul, Int.reduceToNat, Int.reduceNeg, Int.reduceEq, Nat.reducePow, Int.reducePow, Nat.reduceEqDiff, decide_true, decide_false, reduceIte, reduceCtorEq, Int.reduceBEq, Int.reduceBNe, bne_self_eq_false, Int.cast_ofNat_Int, Bool.not_true, Bool.not_false, IntKind.bits]
    refine stp0 ?_
    refine go_loopS mono (σ := Nat × Nat) (fun z => [(5, .int .i64 (z.1 : Int)), (6, .int .i64 (z.2 : Int))]) (fun z => hp H [trRow t]) (fun z => z.2 ≤ t.kids.length ∧ z.1 ≤ 1000 * (l + 1) ∧ szLoop (tsize l) z.1 (t.kids.drop z.2) = szLoop (tsize l) (1 + t.props.length) t.kids) (fun z => t.kids.length - z.2) (1 + t.props.length, 0) ?_ rfl ⟨Nat.zero_le _, by omega, rfl⟩ (fun z hz J hJ => ?_)
    · exact fgt
    obtain ⟨a, i⟩ := z
    obtain ⟨hil, hal, heq⟩ := hz
    simp only at hil hal heq
    simp only [blurR_nil, blurR_some, blurR_none, blurC_region, blurC_regionN, blurC_fregion, blurT_nil, blurT_cons, blurC_seq, blurC_both, blurC_cond, blurC_block, blurC_loop, blurC_skip, blurC_exit, blurC_ret, tellS_nil, tellS_cons, List.set_cons_zero, List.set_cons_succ, tops_zero, tops_succ]
    by_cases h1 : i < t.kids.length
    · rw [List.drop_eq_getElem_cons h1, szLoop] at heq
      by_cases h2 : a < 1000
      · rw [if_pos h2] at heq
        have he : t.kids[i] = t.kids.getD i tr0 := by rw [List.getD_eq_getElem?_getD, List.getElem?_eq_getElem h1]; rfl
        rw [he] at heq
        have ha := tr_at h1
        have hok := ho.ks _ (tr_mem h1)
        have hlo := w5 _ (tr_mem h1)
        have hsz := tsize_le l _ hlo
        generalize t.kids.getD i tr0 = k at *
        have hVc := Tr.V_cells k
        have hVi := Tr.V_is k
        refine stp (And.intro ha (And.intro hVc @trRow_is)) ?_
        rw [← hVi]
        refine ih _ _ _ (by omega) hok hlo ?_
        refine stp0 ?_
        exact hJ (a + tsize l k, i + 1) _ ⟨h1, by show a + tsize l k ≤ 1000 * (l + 1); omega, heq⟩ (by show t.kids.length - (i + 1) < t.kids.length - i; omega) fgt
      · rw [if_neg h2] at heq
        rw [← heq] at h
        refine stp @trRow_is ?_
        exact aret_u hs (h)
    · rw [List.drop_of_length_le (by omega), szLoop] at heq
      rw [← heq] at h
      refine stp @trRow_is ?_
      exact aret_u hs (h)
def tLow (t : Tr) : Bool := tlow 12 t && decide (tsize 12 t ≤ 400)
theorem Low_a {t : Tr} (ho : TrOk t) {H : AHeap} {K : AV → AHeap → Prop} (h : K (.bool (tLow t)) H) : (ACalls Tryz.prog) 20 [t.V] H K := by
  refine acalls_go mo t20 (fun hs hu => ?_)
  have hVi := Tr.V_is t
  unfold tLow at h
  simp only [c20, Tr.V_is, go_sem, Nat.reduceLeDiff, Nat.reduceAdd, Nat.reduceSub, Nat.reduceMul, Nat.reduceLT, Int.reduceLT, Int.reduceLE, Int.reduceAdd, Int.reduceSub, Int.reduceMul, Int.reduceToNat, Int.reduceNeg, Int.reduceEq, Nat.reducePow, Int.reducePow, Nat.reduceEqDiff, decide_true, decide_false, reduceIte, reduceCtorEq, Int.reduceBEq, Int.reduceBNe, bne_self_eq_false, Int.cast_ofNat_Int, Bool.not_true, Bool.not_false, IntKind.bits]
  rw [← hVi]
  refine low_a 12 t _ _ (by omega) ho ?_
  cases h1 : tlow 12 t with
  | true =>
    rw [h1, Bool.true_and] at h
    refine stp0 ?_
    rw [← hVi]
    refine size_a 12 t _ _ (by omega) ho h1 ?_
    refine stp0 ?_
    exact aret_u hs (h)
  | false =>
    rw [h1, Bool.false_and] at h
    refine stp0 ?_
    exact aret_u hs (h)
/-- A call is handed a slice of one's own that nobody writes to any more. -/
theorem acalls_shut {P : Program} {f : Nat} {pre post : List AV} {y z : AV} {H H2 : AHeap} {K : AV → AHeap → Prop} (hS : Shut H y H2 z) (h : (ACalls P) f (pre ++ z :: post) H2 K) : (ACalls P) f (pre ++ y :: post) H K := by
  intro g w vs hSim hR o act next Qc hn
  obtain ⟨u, hu, hrep⟩ := Reps.get hR (i := pre.length) (y := y) (by simp)
  obtain ⟨g', hE, hS', hr'⟩ := hS.sound hSim hrep
  have hR2 := Reps.replace hE hR (fun v hv => by rw [hu] at hv; obtain rfl := Option.some.inj hv; exact hr')
  exact h g' w vs hS' hR2 o act next Qc (fun y' H' g2 w2 v hk hE2 => hn y' H' g2 w2 v hk (hE.trans hE2))
section
variable {H G G2 : AHeap} {K : AV → AHeap → Prop} {y v v' v2 : AV} {n0 : Nat}
theorem aret_full (hn : H.next ≤ G.next) (hG : G.within G.next) (hy : y.under G.next) (hk : K y G) : ARet H.next K y G :=
  ⟨G, y, G.next, .refl _ _, hn, hy, hG, by rw [trunc_self]; exact hk⟩
theorem slat_under {e sz : Nat} {xs : List AV} (h : SlAt n0 G e sz v xs) : v.under G.next := by
  rcases h with ⟨rfl, rfl⟩ | ⟨id, gen, rfl, hid, hg⟩
  · exact .nils
  · exact .wr _ _ _ _ _ (G.lt hg)
end
section
variable {H : AHeap} {K : AV → AHeap → Prop}
end
/-- The names of a path: what has been read of one, the ones before, what is to come. -/
def scanP : List UInt8 → List (List UInt8) → List UInt8 → Option (List (List UInt8))
  | cur, out, [] => if cur = [] ∨ out.length = 7 then none else some (out ++ [cur])
  | cur, out, c :: rest => if c = 47 then (if cur = [] ∨ out.length = 7 then none else scanP [] (out ++ [cur]) rest) else scanP (cur ++ [c]) out rest
def partsP (p : List UInt8) : Option (List (List UInt8)) := if p = [47] then some [] else if p.getD 0 0 = 47 then scanP [] [] (p.drop 1) else none
theorem pstrs_len (ls : List (List UInt8)) : ∀ x ∈ ls.map strV, x.cells.length = 1 := fun x hx => by obtain ⟨n, _, rfl⟩ := List.mem_map.1 hx; rfl
theorem pstrs_u (n : Nat) (ls : List (List UInt8)) : AllC n (ls.map strV) := by rw [uc_strs]; trivial
theorem part_snoc {p : List UInt8} {f i : Nat} (hf : f ≤ i) (hi : i < p.length) : (p.take (i + 1)).drop f = (p.take i).drop f ++ [p.getD i 0] := by
  rw [List.take_add_one, List.getElem?_eq_getElem hi, List.drop_append_of_le_length (by rw [List.length_take]; omega), List.getD_eq_getElem?_getD, List.getElem?_eq_getElem hi]
  rfl
theorem parts_a {p : List UInt8} (hl : p.length < 9223372036854775807) {H : AHeap} {K : AV → AHeap → Prop} (h : ∀ k, K (match partsP p with
    | some ns => .tup [slA k 1 (ns.map strV), .bool true]
    | none => .tup [.nils, .bool false]) H) : (ACalls Tryz.prog) 47 [.str (B p)] H K := by
  refine acalls_go mo t47 (fun hs hu => ?_)
  have hnone : partsP p = none → K (.tup [.nils, .bool false]) H := fun e => by
    have := h 0
    rw [e] at this
    exact this
  have hsome : ∀ ns, partsP p = some ns → ∀ k, K (.tup [slA k 1 (ns.map strV), .bool true]) H := fun ns e k => by
    have := h k
    rw [e] at this
    exact this
  clear h
  unfold partsP at hnone hsome
  simp only [c47, go_sem, Nat.reduceLeDiff, Nat.reduceAdd, Nat.reduceSub, Nat.reduceMul, Nat.reduceLT, Int.reduceLT, Int.reduceLE, Int.reduceAdd, Int.reduceSub, Int.reduceMul, Int.reduceToNat, Int.reduceNeg, Int.reduceEq, Nat.reducePow, Int.reducePow, Nat.reduceEqDiff, decide_true, decide_false, reduceIte, reduceCtorEq, Int.reduceBEq, Int.reduceBNe, bne_self_eq_false, Int.cast_ofNat_Int, Bool.not_true, Bool.not_false, IntKind.bits]
  by_cases h1 : p = [47]
  · rw [if_pos h1] at hsome
    have := hsome [] rfl 0
    subst h1
    refine stp0 ?_
    exact aret_plain hs (by simp only [u_top, u_bool, u_int, u_str, u_nilp, u_nils, u_nilf, u_nilm, u_nili, u_emp, u_byteV, u_ptr, u_wr, u_wc, u_agg, u_tup, u_rd, u_imm, u_func, u_nil, u_cons, u_app, uc_nil, uc_cons, uc_app, u_bytes, uc_bytes, u_ints, uc_ints, cells_bool, cells_int, cells_str, cells_agg, cells_ptr, cells_nils, cells_imm, cells_wr, cells_wc, cells_nilp, cells_nilf, cells_nilm, cells_rd, cells_emp, cells_byteV, cells_func, and_self, and_true, true_and, u_slA, uc_strs, cells_slA, strV_is]) this
  rw [if_neg h1] at hnone hsome
  by_cases h2 : p = []
  · subst h2
    have := hnone rfl
    refine stp0 ?_
    exact aret_plain hs (by simp only [u_top, u_bool, u_int, u_str, u_nilp, u_nils, u_nilf, u_nilm, u_nili, u_emp, u_byteV, u_ptr, u_wr, u_wc, u_agg, u_tup, u_rd, u_imm, u_func, u_nil, u_cons, u_app, uc_nil, uc_cons, uc_app, u_bytes, uc_bytes, u_ints, uc_ints, cells_bool, cells_int, cells_str, cells_agg, cells_ptr, cells_nils, cells_imm, cells_wr, cells_wc, cells_nilp, cells_nilf, cells_nilm, cells_rd, cells_emp, cells_byteV, cells_func, and_self, and_true, true_and, u_slA, uc_strs, cells_slA, strV_is]) this
  have hpos := List.length_pos_iff.2 h2
  have hb0 := byte_at hpos
  by_cases h3 : p.getD 0 0 = 47
  · rw [if_pos h3] at hnone hsome
    have h3n : ((p.getD 0 0).toNat : Int) = 47 := by rw [h3]; rfl
    refine stp (And.intro h1 (And.intro h2 (And.intro hb0 h3n))) ?_
    refine go_loopS mono (σ := AHeap × AV × List (List UInt8) × Nat × Nat) (fun z => [(4, z.2.1), (5, .int .i64 (z.2.2.2.1 : Int)), (6, .int .i64 (z.2.2.2.2 : Int))]) (fun z => hp z.1 []) (fun z => Past H z.1 ∧ SlAt H.next z.1 9 1 z.2.1 (z.2.2.1.map strV) ∧ z.2.2.1.length ≤ 7 ∧ 1 ≤ z.2.2.2.1 ∧ z.2.2.2.1 ≤ z.2.2.2.2 ∧ z.2.2.2.2 ≤ p.length + 1 ∧ (z.2.2.2.2 ≤ p.length → scanP ((p.take z.2.2.2.2).drop z.2.2.2.1) z.2.2.1 (p.drop z.2.2.2.2) = scanP [] [] (p.drop 1)) ∧ (z.2.2.2.2 = p.length + 1 → scanP [] [] (p.drop 1) = some z.2.2.1)) (fun z => p.length + 1 - z.2.2.2.2) (H, .nils, [], 1, 1) ?_ rfl ⟨past_refl, slat_nil, by simp, Nat.le_refl 1, Nat.le_refl 1, by show 1 ≤ p.length + 1; omega, fun _ => by
      show scanP ((p.take 1).drop 1) [] (p.drop 1) = _
      rw [List.drop_of_length_le (l := p.take 1) (by rw [List.length_take]; omega)], fun e => by have e : (1 : Nat) = p.length + 1 := e; omega⟩ (fun z hz J hJ => ?_)
    · exact fgt
    obtain ⟨G, v, out, f, i⟩ := z
    obtain ⟨hG, hv, ho7, hf1, hfi, hil, hsc, hend⟩ := hz
    simp only at hG hv ho7 hf1 hfi hil hsc hend
    simp only [blurR_nil, blurR_some, blurR_none, blurC_region, blurC_regionN, blurC_fregion, blurT_nil, blurT_cons, blurC_seq, blurC_both, blurC_cond, blurC_block, blurC_loop, blurC_skip, blurC_exit, blurC_ret, tellS_nil, tellS_cons, List.set_cons_zero, List.set_cons_succ, tops_zero, tops_succ]
    by_cases h4 : i ≤ p.length
    · have hsc := hsc h4
      have hvl := slat_len hv
      rw [List.length_map] at hvl
      have hJ2 := fun (G2 : AHeap) (v2 : AV) (out2 : List (List UInt8)) (f2 : Nat) p1 p2 p3 p4 p5 p6 p7 a' => hJ (G2, v2, out2, f2, i + 1) a' ⟨p1, p2, p3, p4, p5, by show i + 1 ≤ p.length + 1; omega, p6, p7⟩ (by show p.length + 1 - (i + 1) < p.length + 1 - i; omega)
      clear hJ
      by_cases h5 : i < p.length
      · have hbi := byte_at h5
        have hdr : p.drop i = p.getD i 0 :: p.drop (i + 1) := by rw [List.drop_eq_getElem_cons h5, List.getD_eq_getElem?_getD, List.getElem?_eq_getElem h5]; rfl
        have hsn := part_snoc hfi h5
        rw [hdr, scanP] at hsc
        by_cases h6 : p.getD i 0 = 47
        · have h6n : ((p.getD i 0).toNat : Int) = 47 := by rw [h6]; rfl
          rw [if_pos h6] at hsc
          by_cases h7 : i = f
          · rw [if_pos (.inl (by rw [h7, List.drop_of_length_le (by rw [List.length_take]; omega)]))] at hsc
            have := hnone hsc.symm
            subst h7
            refine stp (And.intro hbi h6n) ?_
            exact aret_past (past_hp hG []) hs (by simp only [u_top, u_bool, u_int, u_str, u_nilp, u_nils, u_nilf, u_nilm, u_nili, u_emp, u_byteV, u_ptr, u_wr, u_wc, u_agg, u_tup, u_rd, u_imm, u_func, u_nil, u_cons, u_app, uc_nil, uc_cons, uc_app, u_bytes, uc_bytes, u_ints, uc_ints, cells_bool, cells_int, cells_str, cells_agg, cells_ptr, cells_nils, cells_imm, cells_wr, cells_wc, cells_nilp, cells_nilf, cells_nilm, cells_rd, cells_emp, cells_byteV, cells_func, and_self, and_true, true_and, u_slA, uc_strs, cells_slA, strV_is]) this
          · by_cases h8 : out.length = 7
            · rw [if_pos (.inr h8)] at hsc
              have := hnone hsc.symm
              refine stp (And.intro hbi (And.intro h6n (And.intro hvl h8))) ?_
              exact aret_past (past_hp hG []) hs (by simp only [u_top, u_bool, u_int, u_str, u_nilp, u_nils, u_nilf, u_nilm, u_nili, u_emp, u_byteV, u_ptr, u_wr, u_wc, u_agg, u_tup, u_rd, u_imm, u_func, u_nil, u_cons, u_app, uc_nil, uc_cons, uc_app, u_bytes, uc_bytes, u_ints, uc_ints, cells_bool, cells_int, cells_str, cells_agg, cells_ptr, cells_nils, cells_imm, cells_wr, cells_wc, cells_nilp, cells_nilf, cells_nilm, cells_rd, cells_emp, cells_byteV, cells_func, and_self, and_true, true_and, u_slA, uc_strs, cells_slA, strV_is]) this
            · rw [if_neg (by rintro (q | q); (have := congrArg List.length q; rw [List.length_drop, List.length_take, List.length_nil] at this; omega); exact h8 q)] at hsc
              obtain ⟨v3, G3, hE, hv3, hbs⟩ := slat_app (G := hp G []) (b := 16) (ys := [strV ((p.take i).drop f)]) (slat_hp hv []) (by rw [hp_nil]; exact hG.next) (pstrs_len out) rfl (by simp only [List.length_map, List.length_cons, List.length_nil]; omega)
              rw [strV_is] at hE
              have hP3 : Past H G3 := beside_past hbs (Nat.le_refl _) (past_hp hG [])
              have hv4 : SlAt H.next G3 9 1 v3 ((out ++ [(p.take i).drop f]).map strV) := by rw [List.map_append]; exact hv3
              have hnil2 : (p.take (i + 1)).drop (i + 1) = [] := List.drop_of_length_le (by rw [List.length_take]; omega)
              refine stp (And.intro hbi (And.intro h6n (And.intro hvl (And.intro h8 hE)))) ?_
              refine hJ2 G3 v3 (out ++ [(p.take i).drop f]) (i + 1) hP3 hv4 (by rw [List.length_append, List.length_singleton]; omega) (Nat.le_add_left 1 i) (Nat.le_refl _) (fun _ => ?_) (fun e => by have e : i + 1 = p.length + 1 := e; omega) _ fgt
              show scanP ((p.take (i + 1)).drop (i + 1)) _ (p.drop (i + 1)) = _
              rw [hnil2]
              exact hsc
        · have h6n : ¬ (p.getD i 0).toNat = 47 := fun e => h6 (UInt8.toNat_inj.1 e)
          rw [if_neg h6, ← hsn] at hsc
          refine stp hbi ?_
          exact hJ2 G v out f hG hv ho7 hf1 (by show f ≤ i + 1; omega) (fun _ => hsc) (fun e => by have e : i + 1 = p.length + 1 := e; omega) _ fgt
      · have hip : i = p.length := by omega
        have hdr : p.drop i = [] := List.drop_of_length_le (by omega)
        rw [hdr, scanP] at hsc
        by_cases h7 : i = f
        · rw [if_pos (.inl (by rw [h7, List.drop_of_length_le (by rw [List.length_take]; omega)]))] at hsc
          have := hnone hsc.symm
          subst h7
          refine stp0 ?_
          exact aret_past (past_hp hG []) hs (by simp only [u_top, u_bool, u_int, u_str, u_nilp, u_nils, u_nilf, u_nilm, u_nili, u_emp, u_byteV, u_ptr, u_wr, u_wc, u_agg, u_tup, u_rd, u_imm, u_func, u_nil, u_cons, u_app, uc_nil, uc_cons, uc_app, u_bytes, uc_bytes, u_ints, uc_ints, cells_bool, cells_int, cells_str, cells_agg, cells_ptr, cells_nils, cells_imm, cells_wr, cells_wc, cells_nilp, cells_nilf, cells_nilm, cells_rd, cells_emp, cells_byteV, cells_func, and_self, and_true, true_and, u_slA, uc_strs, cells_slA, strV_is]) this
        · by_cases h8 : out.length = 7
          · rw [if_pos (.inr h8)] at hsc
            have := hnone hsc.symm
            refine stp (And.intro hvl h8) ?_
            exact aret_past (past_hp hG []) hs (by simp only [u_top, u_bool, u_int, u_str, u_nilp, u_nils, u_nilf, u_nilm, u_nili, u_emp, u_byteV, u_ptr, u_wr, u_wc, u_agg, u_tup, u_rd, u_imm, u_func, u_nil, u_cons, u_app, uc_nil, uc_cons, uc_app, u_bytes, uc_bytes, u_ints, uc_ints, cells_bool, cells_int, cells_str, cells_agg, cells_ptr, cells_nils, cells_imm, cells_wr, cells_wc, cells_nilp, cells_nilf, cells_nilm, cells_rd, cells_emp, cells_byteV, cells_func, and_self, and_true, true_and, u_slA, uc_strs, cells_slA, strV_is]) this
          · rw [if_neg (by rintro (q | q); (have := congrArg List.length q; rw [List.length_drop, List.length_take, List.length_nil] at this; omega); exact h8 q)] at hsc
            obtain ⟨v3, G3, hE, hv3, hbs⟩ := slat_app (G := hp G []) (b := 16) (ys := [strV ((p.take i).drop f)]) (slat_hp hv []) (by rw [hp_nil]; exact hG.next) (pstrs_len out) rfl (by simp only [List.length_map, List.length_cons, List.length_nil]; omega)
            rw [strV_is] at hE
            have hP3 : Past H G3 := beside_past hbs (Nat.le_refl _) (past_hp hG [])
            have hv4 : SlAt H.next G3 9 1 v3 ((out ++ [(p.take i).drop f]).map strV) := by rw [List.map_append]; exact hv3
            have hnil2 : (p.take (i + 1)).drop (i + 1) = [] := List.drop_of_length_le (by rw [List.length_take]; omega)
            refine stp (And.intro hvl (And.intro h8 hE)) ?_
            exact hJ2 G3 v3 (out ++ [(p.take i).drop f]) (i + 1) hP3 hv4 (by rw [List.length_append, List.length_singleton]; omega) (Nat.le_add_left 1 i) (Nat.le_refl _) (fun e => by have e : i + 1 ≤ p.length := e; omega) (fun _ => hsc.symm) _ fgt
    · have e : i = p.length + 1 := by omega
      have := hsome _ (hend e)
      obtain ⟨G2, kk, hS, hP2⟩ := slat_shut (slat_hp hv []) (pstrs_len out)
      refine stp0 ?_
      exact aret_shut (.tup _ _ [] [.bool true] _ _ hS) (hP2 H (Nat.le_refl _) (past_hp hG [])) hs (by simp only [List.nil_append, u_tup, u_cons, u_nil, u_bool, u_slA, and_true]; exact pstrs_u _ _) (this kk)
  · rw [if_neg h3] at hnone
    have := hnone rfl
    have h3n : ¬ (p.getD 0 0).toNat = 47 := fun e => h3 (UInt8.toNat_inj.1 e)
    refine stp (And.intro h1 (And.intro h2 hb0)) ?_
    exact aret_plain hs (by simp only [u_top, u_bool, u_int, u_str, u_nilp, u_nils, u_nilf, u_nilm, u_nili, u_emp, u_byteV, u_ptr, u_wr, u_wc, u_agg, u_tup, u_rd, u_imm, u_func, u_nil, u_cons, u_app, uc_nil, uc_cons, uc_app, u_bytes, uc_bytes, u_ints, uc_ints, cells_bool, cells_int, cells_str, cells_agg, cells_ptr, cells_nils, cells_imm, cells_wr, cells_wc, cells_nilp, cells_nilf, cells_nilm, cells_rd, cells_emp, cells_byteV, cells_func, and_self, and_true, true_and, u_slA, uc_strs, cells_slA, strV_is]) this
def nameIs (n : List UInt8) (k : Tr) : Bool := decide (k.name = n)
def kidT (t : Tr) (n : List UInt8) : Option Tr := t.kids.find? (nameIs n)
def foundV : Option Tr → AV
  | some t => .tup [t.V, .bool true]
  | none => .tup [tr0.V, .bool false]
theorem find_drop {α : Type} {p : α → Bool} {l : List α} {i : Nat} {d : α} (h : i < l.length) : (l.drop i).find? p = if p (l.getD i d) = true then some (l.getD i d) else (l.drop (i + 1)).find? p := by
  have he : l[i] = l.getD i d := by rw [List.getD_eq_getElem?_getD, List.getElem?_eq_getElem h]; rfl
  rw [List.drop_eq_getElem_cons h, he]
  cases hp : p (l.getD i d) with
  | true => rw [List.find?_cons_of_pos hp, if_pos rfl]
  | false => rw [List.find?_cons_of_neg (by rw [hp]; exact Bool.false_ne_true), if_neg Bool.false_ne_true]
theorem kid_a {t : Tr} (ho : TrOk t) {n : List UInt8} {H : AHeap} {K : AV → AHeap → Prop} (h : K (foundV (kidT t n)) H) : (ACalls Tryz.prog) 56 [t.V, .str (B n)] H K := by
  refine acalls_go mo t56 (fun hs hu => ?_)
  have hkl := ho.k
  unfold kidT at h
  simp only [c56, Tr.V_is, go_sem, Nat.reduceLeDiff, Nat.reduceAdd, Nat.reduceSub, Nat.reduceMul, Nat.reduceLT, Int.reduceLT, Int.reduceLE, Int.reduceAdd, Int.reduceSub, Int.reduceMul, Int.reduceToNat, Int.reduceNeg, Int.reduceEq, Nat.reducePow, Int.reducePow, Nat.reduceEqDiff, decide_true, decide_false, reduceIte, reduceCtorEq, Int.reduceBEq, Int.reduceBNe, bne_self_eq_false, Int.cast_ofNat_Int, Bool.not_true, Bool.not_false, IntKind.bits]
  refine go_loopS mono (σ := Nat) (fun i => [(6, .int .i64 (i : Int))]) (fun i => hp H [trRow t, trRow tr0]) (fun i => i ≤ t.kids.length ∧ (t.kids.drop i).find? (nameIs n) = t.kids.find? (nameIs n)) (fun i => t.kids.length - i) 0 ?_ rfl ⟨Nat.zero_le _, rfl⟩ (fun i hi J hJ => ?_)
  · exact fgt
  obtain ⟨hil, hf⟩ := hi
  simp only [blurR_nil, blurR_some, blurR_none, blurC_region, blurC_regionN, blurC_fregion, blurT_nil, blurT_cons, blurC_seq, blurC_both, blurC_cond, blurC_block, blurC_loop, blurC_skip, blurC_exit, blurC_ret, tellS_nil, tellS_cons, List.set_cons_zero, List.set_cons_succ, tops_zero, tops_succ]
  by_cases h1 : i < t.kids.length
  · have ha := tr_at h1
    rw [find_drop (d := tr0) h1] at hf
    generalize t.kids.getD i tr0 = k at *
    have hVc := Tr.V_cells k
    have hVi := Tr.V_is k
    by_cases h2 : k.name = n
    · rw [if_pos (by unfold nameIs; rw [decide_eq_true h2])] at hf
      rw [← hf] at h
      unfold foundV at h
      simp only at h
      rw [hVi, h2] at h
      simp (maxSteps := 4000000) (disch := (first | omega | (simp only [set_next, List.length_append, List.length_cons, List.length_nil, List.length_take, List.length_drop, List.length_map, List.length_set, List.length_replicate]; omega) | (simp only [set_next, ne_eq, reduceCtorEq, not_false_eq_true]))) only [ha, hVc, trRow_is, h2, B_toList, beq_self_eq_true, go_sem, Nat.reduceLeDiff, Nat.reduceAdd, Nat.reduceSub, Nat.reduceMul, Nat.reduceLT, Int.reduceLT, Int.reduceLE, Int.reduceAdd, Int.reduceSub, Int.reduceMul, Int.reduceToNat, Int.reduceNeg, Int.reduceEq, Nat.reducePow, Int.reducePow, Nat.reduceEqDiff, decide_true, decide_false, reduceIte, reduceCtorEq, Int.reduceBEq, Int.reduceBNe, bne_self_eq_false, Int.cast_ofNat_Int, Bool.not_true, Bool.not_false, IntKind.bits, w_nat, w_lit, w_add, w_addl, w_ladd, w_sub, w_subl, w_lsub, w_mul, w_mull, w_lmul, t_div, t_divl, t_mod, t_modl, i_lt, i_ltl, i_llt, i_le, i_lel, i_lle, i_eq, i_eql, i_leq, Nat.zero_le, d_beq, d_bne, d_bytes, byte_at, Int.toNat_natCast, toNat_lit, decide_eq_true, decide_eq_false, if_pos, if_neg, slA_len, slA_idx, slA_cells, flat_slA, one_slA, cells_slA, map_mid, strV_is, hp_get1, hp_get2, hp_get3, hp_set1, hp_set2, hp_set3, hp_old, hp_sold, set_got, set_set, set_next, set_other, bytesL, bytes_all, List.length_map, aapp_nils, aapp_wr, List.flatMap_cons, List.flatMap_nil, Nat.mul_one]
      refine aret_plain hs ?_ h
      simp only [u_top, u_bool, u_int, u_str, u_nilp, u_nils, u_nilf, u_nilm, u_nili, u_emp, u_byteV, u_ptr, u_wr, u_wc, u_agg, u_tup, u_rd, u_imm, u_func, u_nil, u_cons, u_app, uc_nil, uc_cons, uc_app, u_bytes, uc_bytes, u_ints, uc_ints, cells_bool, cells_int, cells_str, cells_agg, cells_ptr, cells_nils, cells_imm, cells_wr, cells_wc, cells_nilp, cells_nilf, cells_nilm, cells_rd, cells_emp, cells_byteV, cells_func, and_self, and_true, true_and, u_slA, uc_strs, cells_slA, strV_is]
      exact ⟨props_u _ _, kids_u _ _⟩
    · rw [if_neg (by unfold nameIs; rw [decide_eq_false h2]; exact Bool.false_ne_true)] at hf
      refine stp (And.intro ha (And.intro hVc (And.intro @trRow_is h2))) ?_
      exact hJ (i + 1) _ ⟨h1, hf⟩ (by omega) fgt
  · rw [List.drop_of_length_le (by omega), List.find?_nil] at hf
    rw [← hf] at h
    unfold foundV at h
    simp only at h
    have e0 : tr0.V = .agg [.str (B []), .nils, .nils] := rfl
    rw [e0] at h
    refine stp @trRow_is ?_
    exact aret_plain hs (by simp only [u_top, u_bool, u_int, u_str, u_nilp, u_nils, u_nilf, u_nilm, u_nili, u_emp, u_byteV, u_ptr, u_wr, u_wc, u_agg, u_tup, u_rd, u_imm, u_func, u_nil, u_cons, u_app, uc_nil, uc_cons, uc_app, u_bytes, uc_bytes, u_ints, uc_ints, cells_bool, cells_int, cells_str, cells_agg, cells_ptr, cells_nils, cells_imm, cells_wr, cells_wc, cells_nilp, cells_nilf, cells_nilm, cells_rd, cells_emp, cells_byteV, cells_func, and_self, and_true, true_and, u_slA, uc_strs, cells_slA, strV_is]) h
def valT (t : Tr) (n : List UInt8) : Option (List UInt8) := (t.props.find? (fun p => decide (p.1 = n))).map (·.2)
theorem value_a {t : Tr} (ho : TrOk t) {n : List UInt8} {H : AHeap} {K : AV → AHeap → Prop} (h : K (match valT t n with
    | some v => .tup [.str (B v), .bool true]
    | none => .tup [.str (B []), .bool false]) H) : (ACalls Tryz.prog) 27 [t.V, .str (B n)] H K := by
  refine acalls_go mo t27 (fun hs hu => ?_)
  have hkl := ho.p
  unfold valT at h
  simp only [c27, Tr.V_is, go_sem, Nat.reduceLeDiff, Nat.reduceAdd, Nat.reduceSub, Nat.reduceMul, Nat.reduceLT, Int.reduceLT, Int.reduceLE, Int.reduceAdd, Int.reduceSub, Int.reduceMul, Int.reduceToNat, Int.reduceNeg, Int.reduceEq, Nat.reducePow, Int.reducePow, Nat.reduceEqDiff, decide_true, decide_false, reduceIte, reduceCtorEq, Int.reduceBEq, Int.reduceBNe, bne_self_eq_false, Int.cast_ofNat_Int, Bool.not_true, Bool.not_false, IntKind.bits]
  refine go_loopS mono (σ := Nat) (fun i => [(6, .int .i64 (i : Int))]) (fun i => hp H [trRow t]) (fun i => i ≤ t.props.length ∧ (t.props.drop i).find? (fun p => decide (p.1 = n)) = t.props.find? (fun p => decide (p.1 = n))) (fun i => t.props.length - i) 0 ?_ rfl ⟨Nat.zero_le _, rfl⟩ (fun i hi J hJ => ?_)
  · exact fgt
  obtain ⟨hil, hf⟩ := hi
  simp only [blurR_nil, blurR_some, blurR_none, blurC_region, blurC_regionN, blurC_fregion, blurT_nil, blurT_cons, blurC_seq, blurC_both, blurC_cond, blurC_block, blurC_loop, blurC_skip, blurC_exit, blurC_ret, tellS_nil, tellS_cons, List.set_cons_zero, List.set_cons_succ, tops_zero, tops_succ]
  by_cases h1 : i < t.props.length
  · have ha := prop_at h1
    rw [find_drop (d := ([], [])) h1] at hf
    generalize t.props.getD i ([], []) = p at *
    by_cases h2 : p.1 = n
    · rw [if_pos (by rw [decide_eq_true h2])] at hf
      rw [← hf] at h
      simp only [Option.map_some] at h
      simp (maxSteps := 4000000) (disch := (first | omega | (simp only [set_next, List.length_append, List.length_cons, List.length_nil, List.length_take, List.length_drop, List.length_map, List.length_set, List.length_replicate]; omega) | (simp only [set_next, ne_eq, reduceCtorEq, not_false_eq_true]))) only [ha, propV_cells, trRow_is, h2, B_toList, beq_self_eq_true, go_sem, Nat.reduceLeDiff, Nat.reduceAdd, Nat.reduceSub, Nat.reduceMul, Nat.reduceLT, Int.reduceLT, Int.reduceLE, Int.reduceAdd, Int.reduceSub, Int.reduceMul, Int.reduceToNat, Int.reduceNeg, Int.reduceEq, Nat.reducePow, Int.reducePow, Nat.reduceEqDiff, decide_true, decide_false, reduceIte, reduceCtorEq, Int.reduceBEq, Int.reduceBNe, bne_self_eq_false, Int.cast_ofNat_Int, Bool.not_true, Bool.not_false, IntKind.bits, w_nat, w_lit, w_add, w_addl, w_ladd, w_sub, w_subl, w_lsub, w_mul, w_mull, w_lmul, t_div, t_divl, t_mod, t_modl, i_lt, i_ltl, i_llt, i_le, i_lel, i_lle, i_eq, i_eql, i_leq, Nat.zero_le, d_beq, d_bne, d_bytes, byte_at, Int.toNat_natCast, toNat_lit, decide_eq_true, decide_eq_false, if_pos, if_neg, slA_len, slA_idx, slA_cells, flat_slA, one_slA, cells_slA, map_mid, strV_is, hp_get1, hp_get2, hp_get3, hp_set1, hp_set2, hp_set3, hp_old, hp_sold, set_got, set_set, set_next, set_other, bytesL, bytes_all, List.length_map, aapp_nils, aapp_wr, List.flatMap_cons, List.flatMap_nil, Nat.mul_one]
      exact aret_u hs (h)
    · rw [if_neg (by rw [decide_eq_false h2]; exact Bool.false_ne_true)] at hf
      refine stp (And.intro ha (And.intro @propV_cells (And.intro @trRow_is h2))) ?_
      exact hJ (i + 1) _ ⟨h1, hf⟩ (by omega) fgt
  · rw [List.drop_of_length_le (by omega), List.find?_nil] at hf
    rw [← hf] at h
    simp only [Option.map_none] at h
    refine stp @trRow_is ?_
    exact aret_u hs (h)
/-! ### a tree is the same as itself -/
/-! ### the node at a path -/
def walkTo : Tr → List (List UInt8) → Option Tr
  | t, [] => some t
  | t, n :: ns => match kidT t n with
    | some k => walkTo k ns
    | none => none
def findT (t : Tr) (p : List UInt8) : Option Tr := match partsP p with
  | some ns => walkTo t ns
  | none => none
theorem kidT_ok {t k : Tr} (ho : TrOk t) {n : List UInt8} (h : kidT t n = some k) : TrOk k := ho.ks k (List.mem_of_find?_eq_some h)
theorem walkTo_ok : ∀ {ns : List (List UInt8)} {t k : Tr}, TrOk t → walkTo t ns = some k → TrOk k
  | [], t, k, ho, h => by
    rw [walkTo] at h
    obtain rfl := Option.some.inj h
    exact ho
  | n :: ns, t, k, ho, h => by
    rw [walkTo] at h
    split at h
    · rename_i c hc
      exact walkTo_ok (kidT_ok ho hc) h
    · cases h
theorem scanP_le : ∀ (rest cur : List UInt8) (out ns : List (List UInt8)), out.length ≤ 7 → scanP cur out rest = some ns → ns.length ≤ 8
  | [], cur, out, ns, ho, h => by
    rw [scanP] at h
    split at h
    · cases h
    · obtain rfl := Option.some.inj h
      rw [List.length_append, List.length_singleton]
      omega
  | c :: rest, cur, out, ns, ho, h => by
    rw [scanP] at h
    split at h
    · split at h
      · cases h
      · rename_i q
        exact scanP_le rest _ _ ns (by have := fun e => q (.inr e); rw [List.length_append, List.length_singleton]; omega) h
    · exact scanP_le rest _ _ ns ho h
theorem partsP_le {p : List UInt8} {ns : List (List UInt8)} (h : partsP p = some ns) : ns.length ≤ 8 := by
  unfold partsP at h
  split at h
  · obtain rfl := Option.some.inj h
    exact Nat.zero_le _
  · split at h
    · exact scanP_le _ _ _ ns (Nat.zero_le _) h
    · cases h
theorem tr0_V : tr0.V = .agg [.str (B []), .nils, .nils] := rfl
theorem find_a {t : Tr} (ho : TrOk t) {p : List UInt8} (hl : p.length < 9223372036854775807) {H : AHeap} {K : AV → AHeap → Prop} (h : K (foundV (findT t p)) H) : (ACalls Tryz.prog) 26 [t.V, .str (B p)] H K := by
  refine acalls_go mo t26 (fun hs hu => ?_)
  have hno : findT t p = none → K (.tup [.agg [.str (B []), .nils, .nils], .bool false]) H := fun e => by
    rw [e] at h
    exact h
  have hyes : ∀ k, findT t p = some k → K (.tup [.agg [.str (B k.name), slA k.kp 2 (k.props.map propV), slA k.kk 3 (k.kids.map Tr.V)], .bool true]) H := fun k e => by
    rw [e] at h
    rw [← Tr.V_is]
    exact h
  clear h
  unfold findT at hno hyes
  simp only [c26, Tr.V_is, go_sem, Nat.reduceLeDiff, Nat.reduceAdd, Nat.reduceSub, Nat.reduceMul, Nat.reduceLT, Int.reduceLT, Int.reduceLE, Int.reduceAdd, Int.reduceSub, Int.reduceMul, Int.reduceToNat, Int.reduceNeg, Int.reduceEq, Nat.reducePow, Int.reducePow, Nat.reduceEqDiff, decide_true, decide_false, reduceIte, reduceCtorEq, Int.reduceBEq, Int.reduceBNe, bne_self_eq_false, Int.cast_ofNat_Int, Bool.not_true, Bool.not_false, IntKind.bits]
  refine parts_a hl (fun kk => ?_)
  cases hp1 : partsP p with
  | none =>
    rw [hp1] at hno
    have := hno rfl
    refine stp0 ?_
    exact aret_plain hs (by simp only [u_top, u_bool, u_int, u_str, u_nilp, u_nils, u_nilf, u_nilm, u_nili, u_emp, u_byteV, u_ptr, u_wr, u_wc, u_agg, u_tup, u_rd, u_imm, u_func, u_nil, u_cons, u_app, uc_nil, uc_cons, uc_app, u_bytes, uc_bytes, u_ints, uc_ints, cells_bool, cells_int, cells_str, cells_agg, cells_ptr, cells_nils, cells_imm, cells_wr, cells_wc, cells_nilp, cells_nilf, cells_nilm, cells_rd, cells_emp, cells_byteV, cells_func, and_self, and_true, true_and, u_slA, uc_strs, cells_slA, strV_is]) this
  | some ns =>
    rw [hp1] at hno hyes
    simp only at hno hyes
    have hn8 := partsP_le hp1
    refine stp0 ?_
    refine go_loopS mono (σ := AHeap × Tr × Nat) (fun z => [(8, .int .i64 (z.2.2 : Int))]) (fun z => hp z.1 []) (fun z => Past H z.1 ∧ z.1.get (H.next + 0) = some (trRow z.2.1) ∧ (∃ o, z.1.get (H.next + 1) = some (trRow o)) ∧ TrOk z.2.1 ∧ walkTo z.2.1 (ns.drop z.2.2) = walkTo t ns ∧ z.2.2 ≤ ns.length) (fun z => ns.length - z.2.2) (hp H [trRow t, trRow tr0], t, 0) ?_ ?_ ⟨past_hp past_refl _, hp_get _ _ 0, ⟨_, hp_get _ _ 1⟩, ho, rfl, Nat.zero_le _⟩ (fun z hz J hJ => ?_)
    · exact fgt
    · rw [hp_nil]
      rfl
    obtain ⟨G, cur, i⟩ := z
    obtain ⟨hG, hg0, ⟨o1, hg1⟩, hok, hw, hil⟩ := hz
    simp only at hG hg0 hg1 hok hw hil
    have hl0 := G.lt hg0
    have hl1 := G.lt hg1
    have hg0' := hg0
    have hg1' := hg1
    rw [trRow_is] at hg0' hg1'
    simp only [blurR_nil, blurR_some, blurR_none, blurC_region, blurC_regionN, blurC_fregion, blurT_nil, blurT_cons, blurC_seq, blurC_both, blurC_cond, blurC_block, blurC_loop, blurC_skip, blurC_exit, blurC_ret, tellS_nil, tellS_cons, List.set_cons_zero, List.set_cons_succ, tops_zero, tops_succ]
    by_cases h1 : i < ns.length
    · have ha := strs_at h1
      have hd : ns.drop i = ns.getD i [] :: ns.drop (i + 1) := by rw [List.drop_eq_getElem_cons h1, List.getD_eq_getElem?_getD, List.getElem?_eq_getElem h1]; rfl
      rw [hd, walkTo] at hw
      generalize ns.getD i [] = n at *
      have hVi := Tr.V_is cur
      refine stp (And.intro ha hg0') ?_
      rw [← hVi]
      refine kid_a hok ?_
      cases hk : kidT cur n with
      | none =>
        rw [hk] at hw
        have := hno hw.symm
        unfold foundV
        rw [tr0_V]
        refine stp (And.intro hg0' hg1') ?_
        exact aret_past (past_hp (past_set hG (by omega) _) _) hs (by simp only [u_top, u_bool, u_int, u_str, u_nilp, u_nils, u_nilf, u_nilm, u_nili, u_emp, u_byteV, u_ptr, u_wr, u_wc, u_agg, u_tup, u_rd, u_imm, u_func, u_nil, u_cons, u_app, uc_nil, uc_cons, uc_app, u_bytes, uc_bytes, u_ints, uc_ints, cells_bool, cells_int, cells_str, cells_agg, cells_ptr, cells_nils, cells_imm, cells_wr, cells_wc, cells_nilp, cells_nilf, cells_nilm, cells_rd, cells_emp, cells_byteV, cells_func, and_self, and_true, true_and, u_slA, uc_strs, cells_slA, strV_is]) this
      | some k =>
        rw [hk] at hw
        simp only at hw
        have hko := kidT_ok hok hk
        have hfv : foundV (some k) = .tup [.agg [.str (B k.name), slA k.kp 2 (k.props.map propV), slA k.kk 3 (k.kids.map Tr.V)], .bool true] := by
          rw [← Tr.V_is k]
          rfl
        rw [hfv]
        refine stp (And.intro hg0' hg1') ?_
        rw [← hp_nil (H := hp (G.set _ _) _)]
        refine hJ (hp (G.set (H.next + 0) (trRow k)) _, k, i + 1) _ ⟨past_hp (past_set hG (by omega) _) _, ?_, ?_, hko, hw, h1⟩ (by show ns.length - (i + 1) < ns.length - i; omega) fgt
        · show (hp (G.set (H.next + 0) (trRow k)) _).get (H.next + 0) = some (trRow k)
          rw [hp_old (by rw [set_next]; omega), set_got (by omega)]
        · exact ⟨o1, by
            show (hp (G.set (H.next + 0) (trRow k)) _).get (H.next + 1) = some (trRow o1)
            rw [hp_old (by rw [set_next]; omega), set_other (by omega), hg1]⟩
    · rw [List.drop_of_length_le (by omega), walkTo] at hw
      have := hyes _ hw.symm
      refine stp (And.intro hg0' hg1') ?_
      refine aret_past (past_hp (past_set hG (by omega) _) _) hs ?_ this
      simp only [u_top, u_bool, u_int, u_str, u_nilp, u_nils, u_nilf, u_nilm, u_nili, u_emp, u_byteV, u_ptr, u_wr, u_wc, u_agg, u_tup, u_rd, u_imm, u_func, u_nil, u_cons, u_app, uc_nil, uc_cons, uc_app, u_bytes, uc_bytes, u_ints, uc_ints, cells_bool, cells_int, cells_str, cells_agg, cells_ptr, cells_nils, cells_imm, cells_wr, cells_wc, cells_nilp, cells_nilf, cells_nilm, cells_rd, cells_emp, cells_byteV, cells_func, and_self, and_true, true_and, u_slA, uc_strs, cells_slA, strV_is]
      exact ⟨props_u _ _, kids_u _ _⟩
def c203 : ACode := 
    (.seq 
    (.region [⟨(some 4), (.q (.move (.const (.int .i64 0)))), none⟩]) 
    (.seq 
    (.seq 
    (.region [⟨(some 7), (.q (.move (.tmp 1))), none⟩, ⟨(some 8), (.q (.len true (.tmp 7))), none⟩, ⟨(some 9), (.q (.bin .eql (.tmp 8) (.const (.int .i64 0)))), none⟩]) 
    (.cond (.tmp 9) 
    (.seq 
    (.region [⟨(some 10), (.q (.move (.tmp 0))), none⟩, ⟨(some 11), (.s (.call 227 [(.tmp 10)])), none⟩, ⟨(some 12), (.q (.bin .add (.tmp 11) (.const (.int .i64 1)))), none⟩, ⟨(some 4), (.q (.move (.tmp 12))), none⟩]) .ret) .skip)) 
    (.seq 
    (.seq 
    (.region [⟨(some 13), (.q (.move (.tmp 1))), none⟩, ⟨(some 14), (.q (.len true (.tmp 13))), none⟩, ⟨(some 15), (.q (.bin .eql (.tmp 14) (.const (.int .i64 1)))), none⟩]) 
    (.cond (.tmp 15) 
    (.seq 
    (.region [⟨(some 16), (.q (.move (.tmp 0))), none⟩, ⟨(some 17), (.q (.move (.tmp 1))), none⟩, ⟨(some 18), (.q (.idxStr (.tmp 17) (.const (.int .i64 0)))), none⟩, ⟨(some 19), (.s (.call 229 [(.tmp 16), (.tmp 18)])), none⟩, ⟨(some 4), (.q (.move (.tmp 19))), none⟩]) .ret) .skip)) 
    (.seq 
    (.region [⟨(some 5), (.q (.move (.const (.int .i64 0)))), none⟩]) 
    (.block 0 
    (.loop 
    (.block 1 
    (.seq 
    (.region [⟨(some 20), (.q (.move (.tmp 0))), none⟩, ⟨(some 21), (.q (.move (.tmp 1))), none⟩, ⟨(some 22), (.s (.call 160 [(.tmp 20), (.tmp 21)])), none⟩, ⟨(some 6), (.q (.move (.tmp 22))), none⟩]) 
    (.seq 
    (.seq 
    (.region [⟨(some 23), (.q (.move (.tmp 6))), none⟩, ⟨(some 24), (.q (.bin .eql (.tmp 23) (.const (.int .i64 (-1))))), none⟩]) 
    (.cond (.tmp 24) 
    (.seq 
    (.region [⟨(some 25), (.q (.move (.tmp 5))), none⟩, ⟨(some 4), (.q (.move (.tmp 25))), none⟩]) .ret) .skip)) 
    (.seq 
    (.region [⟨(some 26), (.q (.move (.tmp 5))), none⟩, ⟨(some 27), (.q (.bin .add (.tmp 26) (.const (.int .i64 1)))), none⟩, ⟨(some 5), (.q (.move (.tmp 27))), none⟩]) 
    (.region [⟨(some 28), (.q (.move (.tmp 0))), none⟩, ⟨(some 29), (.q (.move (.tmp 6))), none⟩, ⟨(some 30), (.q (.move (.tmp 1))), none⟩, ⟨(some 31), (.q (.len true (.tmp 30))), none⟩, ⟨(some 32), (.q (.bin .add (.tmp 29) (.tmp 31))), none⟩, ⟨(some 33), (.q (.sliceStr (.tmp 28) (some (.tmp 32)) none)), none⟩, ⟨(some 0), (.q (.move (.tmp 33))), none⟩])))))))))))
theorem t203 : Told Tryz.prog 203 34 c203 [(.tmp 4)] := ⟨Tryz.f203, _, [], Tryz.func203, rfl, by kernel_rfl, rfl, by kernel_rfl, by kernel_rfl⟩
def c206 : ACode := 
    (.seq 
    (.region [⟨(some 4), (.q (.move (.const (.str (B []))))), none⟩, ⟨(some 5), (.q (.move (.const (.bool false)))), none⟩]) 
    (.seq 
    (.region [⟨(some 6), (.q (.move (.tmp 0))), none⟩, ⟨(some 7), (.q (.move (.tmp 1))), none⟩, ⟨(some 8), (.s (.call 232 [(.tmp 6), (.tmp 7)])), none⟩, ⟨(some 9), (.q (.extract 0 (.tmp 8))), none⟩, ⟨(some 10), (.q (.extract 1 (.tmp 8))), none⟩, ⟨(some 4), (.q (.move (.tmp 9))), none⟩, ⟨(some 5), (.q (.move (.tmp 10))), none⟩]) .ret))
theorem t206 : Told Tryz.prog 206 11 c206 [(.tmp 4), (.tmp 5)] := ⟨Tryz.f206, _, [], Tryz.func206, rfl, by kernel_rfl, rfl, by kernel_rfl, by kernel_rfl⟩
def c232 : ACode := 
    (.seq 
    (.region [⟨(some 4), (.q (.move (.const (.str (B []))))), none⟩, ⟨(some 5), (.q (.move (.const (.bool false)))), none⟩]) 
    (.seq 
    (.seq 
    (.region [⟨(some 6), (.q (.move (.tmp 0))), none⟩, ⟨(some 7), (.q (.move (.tmp 1))), none⟩, ⟨(some 8), (.s (.call 226 [(.tmp 6), (.tmp 7)])), none⟩, ⟨(some 9), (.q (.un .not (.tmp 8))), none⟩]) 
    (.cond (.tmp 9) 
    (.seq 
    (.region [⟨(some 10), (.q (.move (.tmp 0))), none⟩, ⟨(some 4), (.q (.move (.tmp 10))), none⟩, ⟨(some 5), (.q (.move (.const (.bool false)))), none⟩]) .ret) .skip)) 
    (.seq 
    (.region [⟨(some 11), (.q (.move (.tmp 0))), none⟩, ⟨(some 12), (.q (.move (.tmp 0))), none⟩, ⟨(some 13), (.q (.len true (.tmp 12))), none⟩, ⟨(some 14), (.q (.move (.tmp 1))), none⟩, ⟨(some 15), (.q (.len true (.tmp 14))), none⟩, ⟨(some 16), (.q (.bin .sub (.tmp 13) (.tmp 15))), none⟩, ⟨(some 17), (.q (.sliceStr (.tmp 11) none (some (.tmp 16)))), none⟩, ⟨(some 4), (.q (.move (.tmp 17))), none⟩, ⟨(some 5), (.q (.move (.const (.bool true)))), none⟩]) .ret)))
theorem t232 : Told Tryz.prog 232 18 c232 [(.tmp 4), (.tmp 5)] := ⟨Tryz.f232, _, [], Tryz.func232, rfl, by kernel_rfl, rfl, by kernel_rfl, by kernel_rfl⟩
def c133 : ACode := 
    (.seq 
    (.region [⟨(some 4), (.q (.move (.const .nils))), none⟩]) 
    (.seq 
    (.region [⟨(some 5), (.q (.move (.tmp 0))), none⟩, ⟨(some 6), (.q (.move (.tmp 1))), none⟩, ⟨(some 7), (.s (.call 174 [(.tmp 5), (.tmp 6), (.const (.int .i64 0)), (.const (.int .i64 (-1)))])), none⟩, ⟨(some 4), (.q (.move (.tmp 7))), none⟩]) .ret))
theorem t133 : Told Tryz.prog 133 8 c133 [(.tmp 4)] := ⟨Tryz.f133, _, [], Tryz.func133, rfl, by kernel_rfl, rfl, by kernel_rfl, by kernel_rfl⟩
def c174 : ACode := 
    (.seq 
    (.region [⟨(some 8), (.q (.move (.const .nils))), none⟩]) 
    (.seq 
    (.seq 
    (.region [⟨(some 12), (.q (.move (.tmp 3))), none⟩, ⟨(some 13), (.q (.bin .eql (.tmp 12) (.const (.int .i64 0)))), none⟩]) 
    (.cond (.tmp 13) 
    (.seq 
    (.region [⟨(some 8), (.q (.move (.const .nils))), none⟩]) .ret) .skip)) 
    (.seq 
    (.seq 
    (.region [⟨(some 14), (.q (.move (.tmp 1))), none⟩, ⟨(some 15), (.q (.bin .eql (.tmp 14) (.const (.str (B []))))), none⟩]) 
    (.cond (.tmp 15) 
    (.seq 
    (.region [⟨(some 16), (.q (.move (.tmp 0))), none⟩, ⟨(some 17), (.q (.move (.tmp 3))), none⟩, ⟨(some 18), (.s (.call 202 [(.tmp 16), (.tmp 17)])), none⟩, ⟨(some 8), (.q (.move (.tmp 18))), none⟩]) .ret) .skip)) 
    (.seq 
    (.seq 
    (.region [⟨(some 19), (.q (.move (.tmp 3))), none⟩, ⟨(some 20), (.q (.bin .lss (.tmp 19) (.const (.int .i64 0)))), none⟩]) 
    (.cond (.tmp 20) 
    (.region [⟨(some 21), (.q (.move (.tmp 0))), none⟩, ⟨(some 22), (.q (.move (.tmp 1))), none⟩, ⟨(some 23), (.s (.call 203 [(.tmp 21), (.tmp 22)])), none⟩, ⟨(some 24), (.q (.bin .add (.tmp 23) (.const (.int .i64 1)))), none⟩, ⟨(some 3), (.q (.move (.tmp 24))), none⟩]) .skip)) 
    (.seq 
    (.region [⟨(some 25), (.q (.move (.tmp 3))), none⟩, ⟨(some 26), (.q (.move (.tmp 0))), none⟩, ⟨(some 27), (.q (.len true (.tmp 26))), none⟩, ⟨(some 28), (.q (.bin .add (.tmp 27) (.const (.int .i64 1)))), none⟩, ⟨(some 29), (.q (.best false (.tmp 25) (.tmp 28))), none⟩, ⟨(some 3), (.q (.move (.tmp 29))), none⟩]) 
    (.seq 
    (.region [⟨(some 30), (.q (.move (.tmp 3))), none⟩, ⟨(some 31), (.s (.mk 9 1 16 [(.str (B []))] (.tmp 30))), none⟩, ⟨(some 9), (.q (.move (.tmp 31))), none⟩]) 
    (.seq 
    (.region [⟨(some 32), (.q (.move (.tmp 3))), none⟩, ⟨(some 33), (.q (.bin .sub (.tmp 32) (.const (.int .i64 1)))), none⟩, ⟨(some 3), (.q (.move (.tmp 33))), none⟩]) 
    (.seq 
    (.region [⟨(some 10), (.q (.move (.const (.int .i64 0)))), none⟩]) 
    (.seq 
    (.block 0 
    (.loop 
    (.seq 
    (.seq 
    (.region [⟨(some 34), (.q (.move (.tmp 10))), none⟩, ⟨(some 35), (.q (.move (.tmp 3))), none⟩, ⟨(some 36), (.q (.bin .lss (.tmp 34) (.tmp 35))), none⟩]) 
    (.cond (.tmp 36) .skip (.exit 0))) 
    (.block 1 
    (.seq 
    (.region [⟨(some 37), (.q (.move (.tmp 0))), none⟩, ⟨(some 38), (.q (.move (.tmp 1))), none⟩, ⟨(some 39), (.s (.call 160 [(.tmp 37), (.tmp 38)])), none⟩, ⟨(some 11), (.q (.move (.tmp 39))), none⟩]) 
    (.seq 
    (.seq 
    (.region [⟨(some 40), (.q (.move (.tmp 11))), none⟩, ⟨(some 41), (.q (.bin .lss (.tmp 40) (.const (.int .i64 0)))), none⟩]) 
    (.cond (.tmp 41) (.exit 0) .skip)) 
    (.seq 
    (.region [⟨(some 42), (.q (.move (.tmp 9))), none⟩, ⟨(some 43), (.q (.move (.tmp 10))), none⟩, ⟨(some 44), (.q (.move (.tmp 0))), none⟩, ⟨(some 45), (.q (.move (.tmp 11))), none⟩, ⟨(some 46), (.q (.move (.tmp 2))), none⟩, ⟨(some 47), (.q (.bin .add (.tmp 45) (.tmp 46))), none⟩, ⟨(some 48), (.q (.sliceStr (.tmp 44) none (some (.tmp 47)))), none⟩, ⟨(some 49), (.q (.idxSl 1 (.tmp 42) (.tmp 43))), none⟩, ⟨none, (.s (.store 1 (.tmp 49) (.tmp 48))), none⟩]) 
    (.seq 
    (.region [⟨(some 50), (.q (.move (.tmp 0))), none⟩, ⟨(some 51), (.q (.move (.tmp 11))), none⟩, ⟨(some 52), (.q (.move (.tmp 1))), none⟩, ⟨(some 53), (.q (.len true (.tmp 52))), none⟩, ⟨(some 54), (.q (.bin .add (.tmp 51) (.tmp 53))), none⟩, ⟨(some 55), (.q (.sliceStr (.tmp 50) (some (.tmp 54)) none)), none⟩, ⟨(some 0), (.q (.move (.tmp 55))), none⟩]) 
    (.region [⟨(some 56), (.q (.move (.tmp 10))), none⟩, ⟨(some 57), (.q (.bin .add (.tmp 56) (.const (.int .i64 1)))), none⟩, ⟨(some 10), (.q (.move (.tmp 57))), none⟩]))))))))) 
    (.seq 
    (.region [⟨(some 58), (.q (.move (.tmp 9))), none⟩, ⟨(some 59), (.q (.move (.tmp 10))), none⟩, ⟨(some 60), (.q (.move (.tmp 0))), none⟩, ⟨(some 61), (.q (.idxSl 1 (.tmp 58) (.tmp 59))), none⟩, ⟨none, (.s (.store 1 (.tmp 61) (.tmp 60))), none⟩]) 
    (.seq 
    (.region [⟨(some 62), (.q (.move (.tmp 9))), none⟩, ⟨(some 63), (.q (.move (.tmp 10))), none⟩, ⟨(some 64), (.q (.bin .add (.tmp 63) (.const (.int .i64 1)))), none⟩, ⟨(some 65), (.q (.sliceSl 1 (.tmp 62) none (some (.tmp 64)))), none⟩, ⟨(some 8), (.q (.move (.tmp 65))), none⟩]) .ret)))))))))))
theorem t174 : Told Tryz.prog 174 66 c174 [(.tmp 8)] := ⟨Tryz.f174, _, [], Tryz.func174, rfl, by kernel_rfl, rfl, by kernel_rfl, by kernel_rfl⟩
def c221 : ACode := 
    (.seq 
    (.region [⟨(some 4), (.q (.move (.const (.int .i64 0)))), none⟩]) 
    (.seq 
    (.region [⟨(some 5), (.q (.move (.tmp 0))), none⟩, ⟨(some 6), (.q (.move (.tmp 1))), none⟩, ⟨(some 7), (.s (.call 238 [(.tmp 5), (.tmp 6)])), none⟩, ⟨(some 4), (.q (.move (.tmp 7))), none⟩]) .ret))
theorem t221 : Told Tryz.prog 221 8 c221 [(.tmp 4)] := ⟨Tryz.f221, _, [], Tryz.func221, rfl, by kernel_rfl, rfl, by kernel_rfl, by kernel_rfl⟩
def c194 : ACode := 
    (.seq 
    (.region [⟨(some 4), (.q (.move (.const (.int .i64 0)))), none⟩]) 
    (.seq 
    (.region [⟨(some 14), (.q (.move (.tmp 1))), none⟩, ⟨(some 15), (.q (.len true (.tmp 14))), none⟩, ⟨(some 5), (.q (.move (.tmp 15))), none⟩]) 
    (.seq 
    (.block 0 
    (.seq 
    (.region [⟨(some 17), (.q (.move (.tmp 5))), none⟩, ⟨(some 18), (.q (.bin .eql (.tmp 17) (.const (.int .i64 0)))), none⟩, ⟨(some 19), (.q (.move (.tmp 18))), none⟩, ⟨(some 20), (.q (.move (.tmp 1))), (some (19, false))⟩, ⟨(some 21), (.q (.move (.tmp 0))), (some (19, false))⟩, ⟨(some 22), (.q (.bin .eql (.tmp 20) (.tmp 21))), (some (19, false))⟩, ⟨(some 23), (.q (.pick (.tmp 19) (.const (.bool true)) (.tmp 22))), none⟩, ⟨(some 16), (.q (.move (.tmp 23))), none⟩]) 
    (.cond (.tmp 16) 
    (.seq 
    (.region [⟨(some 4), (.q (.move (.const (.int .i64 0)))), none⟩]) .ret) 
    (.seq 
    (.region [⟨(some 25), (.q (.move (.tmp 5))), none⟩, ⟨(some 26), (.q (.bin .eql (.tmp 25) (.const (.int .i64 1)))), none⟩, ⟨(some 24), (.q (.move (.tmp 26))), none⟩]) 
    (.cond (.tmp 24) 
    (.seq 
    (.region [⟨(some 27), (.q (.move (.tmp 0))), none⟩, ⟨(some 28), (.q (.move (.tmp 1))), none⟩, ⟨(some 29), (.q (.idxStr (.tmp 28) (.const (.int .i64 0)))), none⟩, ⟨(some 30), (.s (.call 221 [(.tmp 27), (.tmp 29)])), none⟩, ⟨(some 4), (.q (.move (.tmp 30))), none⟩]) .ret) 
    (.seq 
    (.region [⟨(some 32), (.q (.move (.tmp 5))), none⟩, ⟨(some 33), (.q (.move (.tmp 0))), none⟩, ⟨(some 34), (.q (.len true (.tmp 33))), none⟩, ⟨(some 35), (.q (.bin .geq (.tmp 32) (.tmp 34))), none⟩, ⟨(some 31), (.q (.move (.tmp 35))), none⟩]) 
    (.cond (.tmp 31) 
    (.seq 
    (.region [⟨(some 4), (.q (.move (.const (.int .i64 (-1))))), none⟩]) .ret) 
    (.seq 
    (.region [⟨(some 37), (.q (.move (.tmp 5))), none⟩, ⟨(some 38), (.s .stop), none⟩, ⟨(some 39), (.q (.bin .leq (.tmp 37) (.tmp 38))), none⟩, ⟨(some 40), (.q (.move (.tmp 39))), none⟩, ⟨(some 41), (.q (.move (.tmp 0))), (some (40, true))⟩, ⟨(some 42), (.q (.len true (.tmp 41))), (some (40, true))⟩, ⟨(some 43), (.q (.bin .leq (.tmp 42) (.const (.int .i64 64)))), (some (40, true))⟩, ⟨(some 44), (.q (.pick (.tmp 40) (.tmp 43) (.const (.bool false)))), none⟩, ⟨(some 36), (.q (.move (.tmp 44))), none⟩]) 
    (.cond (.tmp 36) 
    (.seq 
    (.region [⟨(some 45), (.q (.move (.tmp 0))), none⟩, ⟨(some 46), (.q (.move (.tmp 1))), none⟩, ⟨(some 47), (.s (.call 222 [(.tmp 45), (.tmp 46)])), none⟩, ⟨(some 4), (.q (.move (.tmp 47))), none⟩]) .ret) .skip))))))))) 
    (.seq 
    (.region [⟨(some 48), (.q (.move (.tmp 1))), none⟩, ⟨(some 49), (.q (.idxStr (.tmp 48) (.const (.int .i64 0)))), none⟩, ⟨(some 6), (.q (.move (.tmp 49))), none⟩]) 
    (.seq 
    (.region [⟨(some 50), (.q (.move (.tmp 1))), none⟩, ⟨(some 51), (.q (.idxStr (.tmp 50) (.const (.int .i64 1)))), none⟩, ⟨(some 7), (.q (.move (.tmp 51))), none⟩]) 
    (.seq 
    (.region [⟨(some 8), (.q (.move (.const (.int .i64 0)))), none⟩]) 
    (.seq 
    (.region [⟨(some 52), (.q (.move (.tmp 0))), none⟩, ⟨(some 53), (.q (.len true (.tmp 52))), none⟩, ⟨(some 54), (.q (.move (.tmp 5))), none⟩, ⟨(some 55), (.q (.bin .sub (.tmp 53) (.tmp 54))), none⟩, ⟨(some 56), (.q (.bin .add (.tmp 55) (.const (.int .i64 1)))), none⟩, ⟨(some 9), (.q (.move (.tmp 56))), none⟩]) 
    (.seq 
    (.region [⟨(some 10), (.q (.move (.const (.int .i64 0)))), none⟩]) 
    (.seq 
    (.block 1 
    (.loop 
    (.seq 
    (.seq 
    (.region [⟨(some 57), (.q (.move (.tmp 8))), none⟩, ⟨(some 58), (.q (.move (.tmp 9))), none⟩, ⟨(some 59), (.q (.bin .lss (.tmp 57) (.tmp 58))), none⟩]) 
    (.cond (.tmp 59) .skip (.exit 1))) 
    (.block 2 
    (.seq 
    (.seq 
    (.region [⟨(some 60), (.q (.move (.tmp 0))), none⟩, ⟨(some 61), (.q (.move (.tmp 8))), none⟩, ⟨(some 62), (.q (.idxStr (.tmp 60) (.tmp 61))), none⟩, ⟨(some 63), (.q (.move (.tmp 6))), none⟩, ⟨(some 64), (.q (.bin .neq (.tmp 62) (.tmp 63))), none⟩]) 
    (.cond (.tmp 64) 
    (.seq 
    (.region [⟨(some 65), (.q (.move (.tmp 0))), none⟩, ⟨(some 66), (.q (.move (.tmp 8))), none⟩, ⟨(some 67), (.q (.bin .add (.tmp 66) (.const (.int .i64 1)))), none⟩, ⟨(some 68), (.q (.move (.tmp 9))), none⟩, ⟨(some 69), (.q (.sliceStr (.tmp 65) (some (.tmp 67)) (some (.tmp 68)))), none⟩, ⟨(some 70), (.q (.move (.tmp 6))), none⟩, ⟨(some 71), (.s (.call 221 [(.tmp 69), (.tmp 70)])), none⟩, ⟨(some 11), (.q (.move (.tmp 71))), none⟩]) 
    (.seq 
    (.seq 
    (.region [⟨(some 72), (.q (.move (.tmp 11))), none⟩, ⟨(some 73), (.q (.bin .lss (.tmp 72) (.const (.int .i64 0)))), none⟩]) 
    (.cond (.tmp 73) 
    (.seq 
    (.region [⟨(some 4), (.q (.move (.const (.int .i64 (-1))))), none⟩]) .ret) .skip)) 
    (.region [⟨(some 74), (.q (.move (.tmp 8))), none⟩, ⟨(some 75), (.q (.move (.tmp 11))), none⟩, ⟨(some 76), (.q (.bin .add (.tmp 75) (.const (.int .i64 1)))), none⟩, ⟨(some 77), (.q (.bin .add (.tmp 74) (.tmp 76))), none⟩, ⟨(some 8), (.q (.move (.tmp 77))), none⟩]))) .skip)) 
    (.seq 
    (.seq 
    (.region [⟨(some 78), (.q (.move (.tmp 0))), none⟩, ⟨(some 79), (.q (.move (.tmp 8))), none⟩, ⟨(some 80), (.q (.bin .add (.tmp 79) (.const (.int .i64 1)))), none⟩, ⟨(some 81), (.q (.idxStr (.tmp 78) (.tmp 80))), none⟩, ⟨(some 82), (.q (.move (.tmp 7))), none⟩, ⟨(some 83), (.q (.bin .eql (.tmp 81) (.tmp 82))), none⟩, ⟨(some 84), (.q (.move (.tmp 83))), none⟩, ⟨(some 85), (.q (.move (.tmp 0))), (some (84, true))⟩, ⟨(some 86), (.q (.move (.tmp 8))), (some (84, true))⟩, ⟨(some 87), (.q (.move (.tmp 8))), (some (84, true))⟩, ⟨(some 88), (.q (.move (.tmp 5))), (some (84, true))⟩, ⟨(some 89), (.q (.bin .add (.tmp 87) (.tmp 88))), (some (84, true))⟩, ⟨(some 90), (.q (.sliceStr (.tmp 85) (some (.tmp 86)) (some (.tmp 89)))), (some (84, true))⟩, ⟨(some 91), (.q (.move (.tmp 1))), (some (84, true))⟩, ⟨(some 92), (.q (.bin .eql (.tmp 90) (.tmp 91))), (some (84, true))⟩, ⟨(some 93), (.q (.pick (.tmp 84) (.tmp 92) (.const (.bool false)))), none⟩]) 
    (.cond (.tmp 93) 
    (.seq 
    (.region [⟨(some 94), (.q (.move (.tmp 8))), none⟩, ⟨(some 4), (.q (.move (.tmp 94))), none⟩]) .ret) .skip)) 
    (.seq 
    (.region [⟨(some 95), (.q (.move (.tmp 8))), none⟩, ⟨(some 96), (.q (.bin .add (.tmp 95) (.const (.int .i64 1)))), none⟩, ⟨(some 8), (.q (.move (.tmp 96))), none⟩]) 
    (.seq 
    (.region [⟨(some 97), (.q (.move (.tmp 10))), none⟩, ⟨(some 98), (.q (.bin .add (.tmp 97) (.const (.int .i64 1)))), none⟩, ⟨(some 10), (.q (.move (.tmp 98))), none⟩]) 
    (.seq 
    (.region [⟨(some 99), (.q (.move (.tmp 5))), none⟩, ⟨(some 100), (.s .stop), none⟩, ⟨(some 101), (.q (.bin .leq (.tmp 99) (.tmp 100))), none⟩, ⟨(some 102), (.q (.move (.tmp 101))), none⟩, ⟨(some 103), (.q (.move (.tmp 10))), (some (102, true))⟩, ⟨(some 104), (.q (.move (.tmp 8))), (some (102, true))⟩, ⟨(some 105), (.s (.call 223 [(.tmp 104)])), (some (102, true))⟩, ⟨(some 106), (.q (.bin .gtr (.tmp 103) (.tmp 105))), (some (102, true))⟩, ⟨(some 107), (.q (.pick (.tmp 102) (.tmp 106) (.const (.bool false)))), none⟩]) 
    (.cond (.tmp 107) 
    (.seq 
    (.region [⟨(some 108), (.q (.move (.tmp 0))), none⟩, ⟨(some 109), (.q (.move (.tmp 8))), none⟩, ⟨(some 110), (.q (.sliceStr (.tmp 108) (some (.tmp 109)) none)), none⟩, ⟨(some 111), (.q (.move (.tmp 1))), none⟩, ⟨(some 112), (.s (.call 222 [(.tmp 110), (.tmp 111)])), none⟩, ⟨(some 12), (.q (.move (.tmp 112))), none⟩]) 
    (.seq 
    (.seq 
    (.region [⟨(some 113), (.q (.move (.tmp 12))), none⟩, ⟨(some 114), (.q (.bin .geq (.tmp 113) (.const (.int .i64 0)))), none⟩]) 
    (.cond (.tmp 114) 
    (.seq 
    (.region [⟨(some 115), (.q (.move (.tmp 12))), none⟩, ⟨(some 116), (.q (.move (.tmp 8))), none⟩, ⟨(some 117), (.q (.bin .add (.tmp 115) (.tmp 116))), none⟩, ⟨(some 4), (.q (.move (.tmp 117))), none⟩]) .ret) .skip)) 
    (.seq 
    (.region [⟨(some 4), (.q (.move (.const (.int .i64 (-1))))), none⟩]) .ret))) 
    (.seq 
    (.region [⟨(some 118), (.q (.move (.tmp 5))), none⟩, ⟨(some 119), (.s .stop), none⟩, ⟨(some 120), (.q (.bin .gtr (.tmp 118) (.tmp 119))), none⟩, ⟨(some 121), (.q (.move (.tmp 120))), none⟩, ⟨(some 122), (.q (.move (.tmp 10))), (some (121, true))⟩, ⟨(some 123), (.q (.move (.tmp 8))), (some (121, true))⟩, ⟨(some 124), (.q (.bin .shr (.tmp 123) (.const (.int .u64 4)))), (some (121, true))⟩, ⟨(some 125), (.q (.bin .add (.const (.int .i64 4)) (.tmp 124))), (some (121, true))⟩, ⟨(some 126), (.q (.bin .geq (.tmp 122) (.tmp 125))), (some (121, true))⟩, ⟨(some 127), (.q (.pick (.tmp 121) (.tmp 126) (.const (.bool false)))), none⟩, ⟨(some 128), (.q (.move (.tmp 127))), none⟩, ⟨(some 129), (.q (.move (.tmp 8))), (some (128, true))⟩, ⟨(some 130), (.q (.move (.tmp 9))), (some (128, true))⟩, ⟨(some 131), (.q (.bin .lss (.tmp 129) (.tmp 130))), (some (128, true))⟩, ⟨(some 132), (.q (.pick (.tmp 128) (.tmp 131) (.const (.bool false)))), none⟩]) 
    (.cond (.tmp 132) 
    (.seq 
    (.region [⟨(some 133), (.q (.move (.tmp 0))), none⟩, ⟨(some 134), (.q (.move (.tmp 8))), none⟩, ⟨(some 135), (.q (.sliceStr (.tmp 133) (some (.tmp 134)) none)), none⟩, ⟨(some 136), (.q (.move (.tmp 1))), none⟩, ⟨(some 137), (.s (.call 224 [(.tmp 135), (.tmp 136)])), none⟩, ⟨(some 13), (.q (.move (.tmp 137))), none⟩]) 
    (.seq 
    (.seq 
    (.region [⟨(some 138), (.q (.move (.tmp 13))), none⟩, ⟨(some 139), (.q (.bin .lss (.tmp 138) (.const (.int .i64 0)))), none⟩]) 
    (.cond (.tmp 139) 
    (.seq 
    (.region [⟨(some 4), (.q (.move (.const (.int .i64 (-1))))), none⟩]) .ret) .skip)) 
    (.seq 
    (.region [⟨(some 140), (.q (.move (.tmp 8))), none⟩, ⟨(some 141), (.q (.move (.tmp 13))), none⟩, ⟨(some 142), (.q (.bin .add (.tmp 140) (.tmp 141))), none⟩, ⟨(some 4), (.q (.move (.tmp 142))), none⟩]) .ret))) .skip)))))))))))) 
    (.seq 
    (.region [⟨(some 4), (.q (.move (.const (.int .i64 (-1))))), none⟩]) .ret))))))))))
theorem t194 : Told Tryz.prog 194 143 c194 [(.tmp 4)] := ⟨Tryz.f194, _, [], Tryz.func194, rfl, by kernel_rfl, rfl, by kernel_rfl, by kernel_rfl⟩
def c160 : ACode := 
    (.seq 
    (.region [⟨(some 4), (.q (.move (.const (.int .i64 0)))), none⟩]) 
    (.seq 
    (.region [⟨(some 5), (.q (.move (.tmp 0))), none⟩, ⟨(some 6), (.q (.move (.tmp 1))), none⟩, ⟨(some 7), (.s (.call 194 [(.tmp 5), (.tmp 6)])), none⟩, ⟨(some 4), (.q (.move (.tmp 7))), none⟩]) .ret))
theorem t160 : Told Tryz.prog 160 8 c160 [(.tmp 4)] := ⟨Tryz.f160, _, [], Tryz.func160, rfl, by kernel_rfl, rfl, by kernel_rfl, by kernel_rfl⟩
/-- Where a byte is first: what is ahead of it, what is behind it, whether it is there. -/
def cut1 (c : UInt8) : List UInt8 → List UInt8 × List UInt8 × Bool
  | [] => ([], [], false)
  | b :: l => if b = c then ([], l, true) else (b :: (cut1 c l).1, (cut1 c l).2.1, (cut1 c l).2.2)
theorem cut1_found {c : UInt8} : ∀ {l : List UInt8}, (cut1 c l).2.2 = true → l = (cut1 c l).1 ++ c :: (cut1 c l).2.1
  | [], h => by simp [cut1] at h
  | b :: l, h => by
    by_cases hb : b = c
    · subst hb; simp [cut1]
    · simp only [cut1, if_neg hb] at h ⊢
      rw [List.cons_append, ← cut1_found h]
theorem cut1_none {c : UInt8} : ∀ {l : List UInt8}, (cut1 c l).2.2 = false → (cut1 c l).1 = l ∧ (cut1 c l).2.1 = [] ∧ c ∉ l
  | [], _ => by simp [cut1]
  | b :: l, h => by
    by_cases hb : b = c
    · subst hb; simp [cut1] at h
    · simp only [cut1, if_neg hb] at h ⊢
      obtain ⟨h1, h2, h3⟩ := cut1_none h
      exact ⟨by rw [h1], h2, by simp [h3, Ne.symm hb]⟩
theorem cut1_free {c : UInt8} : ∀ {l : List UInt8}, c ∉ (cut1 c l).1
  | [] => by simp [cut1]
  | b :: l => by
    by_cases hb : b = c
    · subst hb; simp [cut1]
    · simp only [cut1, if_neg hb, List.mem_cons, not_or]
      exact ⟨Ne.symm hb, cut1_free⟩
theorem cut1_mem {c : UInt8} {l : List UInt8} : ((cut1 c l).2.2 = true) ↔ (c ∈ l) := by
  constructor
  · intro h
    rw [cut1_found h]
    simp
  · intro h
    cases h2 : (cut1 c l).2.2 with
    | true => rfl
    | false => exact absurd h (cut1_none h2).2.2
theorem cut1_le {c : UInt8} : ∀ {l : List UInt8}, (cut1 c l).1.length ≤ l.length
  | [] => by simp [cut1]
  | b :: l => by
    by_cases hb : b = c
    · simp [cut1, hb]
    · simp only [cut1, if_neg hb, List.length_cons]
      have := cut1_le (c := c) (l := l)
      omega
theorem indexByte_cut {c : UInt8} : ∀ (l : List UInt8), Lib.indexByte l c = if (cut1 c l).2.2 = true then ((cut1 c l).1.length : Int) else -1
  | [] => rfl
  | b :: l => by
    by_cases hb : b = c
    · subst hb; simp [Lib.indexByte, cut1]
    · have hb' : (b == c) = false := by simpa using hb
      simp only [Lib.indexByte, cut1, if_neg hb, hb', indexByte_cut l, Bool.false_eq_true, if_false, List.length_cons]
      cases (cut1 c l).2.2 with
      | true =>
        have : ((((cut1 c l).1.length : Int)) == -1) = false := by simp
        simp [this]
      | false => simp
theorem ibs_a {l : List UInt8} {c : UInt8} {H : AHeap} {K : AV → AHeap → Prop} (h : K (.int .i64 (Lib.indexByte l c)) H) : (ACalls Tryz.prog) 238 [.str (B l), .int .u8 (c.toNat : Int)] H K :=
  acalls_extq h fun g w vs hS hR => by
    obtain ⟨u, v, rfl, h1, h2⟩ := reps_two hR
    have e1 := str_inv h1
    have e2 := int_inv h2
    subst e1
    subst e2
    refine ⟨.int .i64 (Lib.indexByte l c), ?_, .int _ _⟩
    rw [run_callFunc_extern Tryz.func238 (by kernel_rfl) (by kernel_rfl) (by kernel_rfl) (e := Extern.BytealgIndexByte.indexByte) (by kernel_rfl), Lib.run_indexByteString]
    simp [B_list, Result.andThen]
theorem sib_a {l : List UInt8} {c : UInt8} {H : AHeap} {K : AV → AHeap → Prop} (h : K (.int .i64 (Lib.indexByte l c)) H) : (ACalls Tryz.prog) 221 [.str (B l), .int .u8 (c.toNat : Int)] H K := by
  refine acalls_go mo t221 (fun hs hu => ?_)
  simp only [c221, go_sem, Nat.reduceLeDiff, Nat.reduceAdd, Nat.reduceSub, Nat.reduceMul, Nat.reduceLT, Int.reduceLT, Int.reduceLE, Int.reduceAdd, Int.reduceSub, Int.reduceMul, Int.reduceToNat, Int.reduceNeg, Int.reduceEq, Nat.reducePow, Int.reducePow, Nat.reduceEqDiff, decide_true, decide_false, reduceIte, reduceCtorEq, Int.reduceBEq, Int.reduceBNe, bne_self_eq_false, Int.cast_ofNat_Int, Bool.not_true, Bool.not_false, IntKind.bits]
  refine ibs_a ?_
  refine stp0 ?_
  exact aret_u hs (h)
theorem sindex_a {l : List UInt8} {c : UInt8} {H : AHeap} {K : AV → AHeap → Prop} (h : K (.int .i64 (Lib.indexByte l c)) H) : (ACalls Tryz.prog) 194 [.str (B l), .str (B [c])] H K := by
  refine acalls_go mo t194 (fun hs hu => ?_)
  simp only [c194, go_sem, Nat.reduceLeDiff, Nat.reduceAdd, Nat.reduceSub, Nat.reduceMul, Nat.reduceLT, Int.reduceLT, Int.reduceLE, Int.reduceAdd, Int.reduceSub, Int.reduceMul, Int.reduceToNat, Int.reduceNeg, Int.reduceEq, Nat.reducePow, Int.reducePow, Nat.reduceEqDiff, decide_true, decide_false, reduceIte, reduceCtorEq, Int.reduceBEq, Int.reduceBNe, bne_self_eq_false, Int.cast_ofNat_Int, Bool.not_true, Bool.not_false, IntKind.bits]
  refine stp0 ?_
  refine cnd_dec (fun h1 => ?_) (fun h1 => ?_)
  · subst h1
    have h0 : Lib.indexByte [c] c = 0 := by simp [Lib.indexByte]
    rw [h0] at h
    refine stp0 ?_
    exact aret_u hs (h)
  · refine stp0 ?_
    refine sib_a ?_
    refine stp0 ?_
    exact aret_u hs (h)
theorem index_a {l : List UInt8} {c : UInt8} {H : AHeap} {K : AV → AHeap → Prop} (h : K (.int .i64 (Lib.indexByte l c)) H) : (ACalls Tryz.prog) 160 [.str (B l), .str (B [c])] H K := by
  refine acalls_go mo t160 (fun hs hu => ?_)
  simp only [c160, go_sem, Nat.reduceLeDiff, Nat.reduceAdd, Nat.reduceSub, Nat.reduceMul, Nat.reduceLT, Int.reduceLT, Int.reduceLE, Int.reduceAdd, Int.reduceSub, Int.reduceMul, Int.reduceToNat, Int.reduceNeg, Int.reduceEq, Nat.reducePow, Int.reducePow, Nat.reduceEqDiff, decide_true, decide_false, reduceIte, reduceCtorEq, Int.reduceBEq, Int.reduceBNe, bne_self_eq_false, Int.cast_ofNat_Int, Bool.not_true, Bool.not_false, IntKind.bits]
  refine sindex_a ?_
  refine stp0 ?_
  exact aret_u hs (h)
end Go.Proofs.YtmdgjfadbhenjaaGreatDoor.AL
