/- Trees told: the program is awake; the law of what is changed. -/
import Derived.Test.YtdknpnmdjjmapaaDoorQEditKeepsALPatP
import Derived.Test.YtdknpnmdjjmapaaDoorQEditKeepsALMT10
import Derived.Test.YtdknpnmdjjmapaaDoorQEditKeepsALA4
import Derived.OpenShut
set_option linter.unusedSimpArgs false
set_option linter.unusedVariables false
set_option maxRecDepth 100000
set_option maxHeartbeats 16000000
namespace Go.Proofs.YtdknpnmdjjmapaaDoor.AL
open Go Go.Proofs
attribute [local go_sem] go_seq go_skip go_region go_regionN go_fregion rgF_some go_cond go_block go_exit go_ret nxt_nil nxt_code nxt_blk nxt_cut leave_nil leave_code leave_cut leave_blk rtn_nil rtn_code rtn_blk rtn_cut cnd_t cnd_f rgn_nil rgY_some rgY_none rgH_some rgP_some retTo_is rgV_func grd_und grd_tt grd_ff grd_tf grd_ft rgn_q rgn_alloc rgn_box rgn_store rgn_lit rgn_litw litCells_nil litCells_cons rgn_app rgn_copy rgn_mk rgn_s2b rgn_call rgn_callv rgn_stop rgn_slice3 aslice3 rgn_slice3l aslice3l rgn_appz rgn_clear rgn_range rgn_next arange acap rgn_put rgn_mkmap rgn_lookup rgn_mapup alookup_nilm alookup_map amapup_map afound_ok afound_no rgn_c rgn_cv qclV_func aloadr rgn_guard post_ret post_normal retY_some ares aresL ares1 AX.ev aput List.getD_cons_zero List.getD_cons_succ List.set_cons_zero List.set_cons_succ List.map_cons List.map_nil aq abin aint astr abeq aconv asame aextract alenS alenL_nils alenL_emp alenL_imm alenL_wr alenL_wc aun apart aload afieldAddr afield aidxSl_wr aidxSl_wc aidxSl_imm aidxPt aidxStr aidxArr abound asliceStr asliceSl asliceArr abest anonil afill astore acells_nils acells_emp acells_imm acells_wr acells_wc acells_str acopy litAll amk as2b anil nilOf aseq aeqs aeqv fits fit1 hp_next hp_push hp_get hp_set List.length_cons List.length_nil List.getElem?_cons_zero List.getElem?_cons_succ List.cons_append List.nil_append List.append_nil List.take_succ_cons List.take_zero List.drop_succ_cons List.drop_zero List.all_cons List.all_nil Option.map_some Option.some.injEq Bool.and_true Bool.true_and Bool.false_eq_true if_true if_false ite_true ite_false Bool.and_self true_and and_true and_self Nat.zero_add Nat.le_refl Int.toNat_natCast beq_self_eq_true eq_self tops_zero tops_succ Int.natCast_nonneg List.take_nil List.drop_nil Option.map_none flat_bool one_bool cells_bool flat_int one_int cells_int flat_str one_str cells_str flat_nilp one_nilp cells_nilp flat_ptr one_ptr cells_ptr flat_nils one_nils cells_nils flat_imm one_imm cells_imm flat_wr one_wr cells_wr flat_wc one_wc cells_wc flat_func one_func cells_func flat_nilf one_nilf cells_nilf flat_map one_map cells_map flat_nilm one_nilm cells_nilm flat_iface one_iface cells_iface flat_nili one_nili cells_nili flat_rd one_rd cells_rd flat_emp one_emp cells_emp flat_byteV one_byteV cells_byteV flat_agg cells_agg one_agg B_size B_list B_ext B_toList B_app List.take_length Int.le_refl
theorem dropS_m {n : Nat} {p : List UInt8} {t : Tr} (h : TrM n t) : TrM (n + 1) (dropS p t).1 := by
  unfold dropS
  split
  · exact trm_0 _
  · split
    · exact trm_0 _
    · exact changedS_m dropF_m h
section
variable {H : AHeap} {K : AV → AHeap → Prop}
end
def awT1 : Tr := .mk [] 0 [] 0 [.mk [97] 0 [] 0 [.mk [98] 0 [] 0 []]]
def awT2 : Tr := .mk [] 0 [] 0 [.mk [97] 0 [] 0 [.mk [98] 0 [([120], [49])] 0 []]]
theorem awk17_1 : makeS [47, 97, 47, 98] tr0 = (awT1, 0) := by kernel_rfl
theorem awk17_2 : changedS (setF [120] [49]) [47, 97, 47, 98] awT1 = (awT2, 0) := by kernel_rfl
theorem awk17_3 : findT awT2 [47, 97, 47, 98] = some (.mk [98] 0 [([120], [49])] 0 []) := by kernel_rfl
theorem awk17_4 : dropS [47, 97] awT2 = (tr0, 0) := by kernel_rfl
theorem awk17_5 : (changedS (addF [98]) [47, 97] awT1).2 = 12 := by kernel_rfl
theorem trm_aw1 : TrM 10 awT1 := by
  refine .mk _ _ _ _ _ (by simp) (by simp) (by simp) (by simp) (fun k hk => ?_)
  obtain rfl := List.mem_singleton.1 hk
  refine .mk _ _ _ _ _ (by simp) (by simp) (by simp) (by simp) (fun k hk => ?_)
  obtain rfl := List.mem_singleton.1 hk
  exact .mk _ _ _ _ _ (by simp) (by simp) (by simp) (by simp) (by simp)
theorem trm_aw2 : TrM 10 awT2 := by
  refine .mk _ _ _ _ _ (by simp) (by simp) (by simp) (by simp) (fun k hk => ?_)
  obtain rfl := List.mem_singleton.1 hk
  refine .mk _ _ _ _ _ (by simp) (by simp) (by simp) (by simp) (fun k hk => ?_)
  obtain rfl := List.mem_singleton.1 hk
  exact .mk _ _ _ _ _ (by simp) (by simp) (by simp) (by simp) (by simp)
section
variable {H : AHeap} {K : AV → AHeap → Prop}
theorem awake17_a (h : K (.bool true) H) : (ACalls Tryd.prog) 7 [] H K := by
  refine acalls_go mo t7 (fun hs hu => ?_)
  have e0 : tr0.V = .agg [.str (B []), .nils, .nils] := tr0_V
  have es0 : tr0.strip = tr0 := rfl
  simp only [c7, go_sem, Nat.reduceLeDiff, Nat.reduceAdd, Nat.reduceSub, Nat.reduceMul, Nat.reduceLT, Int.reduceLT, Int.reduceLE, Int.reduceAdd, Int.reduceSub, Int.reduceMul, Int.reduceToNat, Int.reduceNeg, Int.reduceEq, Nat.reducePow, Int.reducePow, Nat.reduceEqDiff, decide_true, decide_false, reduceIte, reduceCtorEq, Int.reduceBEq, Int.reduceBNe, bne_self_eq_false, Int.cast_ofNat_Int, Bool.not_true, Bool.not_false, IntKind.bits]
  rw [← e0]
  refine Make_m (n := 10) (by omega) (trm_0 _) (by decide) (fun n hn => ?_)
  rw [es0, awk17_1] at hn
  rw [es0, awk17_1]
  have hn : n.strip = awT1.strip := hn
  have hnm := trm_same hn trm_aw1
  have hV1 := Tr.V_is n
  refine stp hV1 ?_
  rw [← hV1]
  refine Set_m (n := 10) (by omega) hnm (by decide) (by decide) (by decide) (fun m hm => ?_)
  rw [hn, show awT1.strip = awT1 from rfl, awk17_2] at hm
  rw [hn, show awT1.strip = awT1 from rfl, awk17_2]
  have hm : m.strip = awT2.strip := hm
  have hmm := trm_same hm trm_aw2
  have hV2 := Tr.V_is m
  obtain ⟨y, hy1, hy2⟩ := find_alike hm awk17_3
  have hyp : y.props.length = 1 := by rw [← Tr.strip_props, hy2]; rfl
  rw [hV1]
  refine stp hV2 ?_
  rw [← hV2]
  refine find_a (trm_ok (by omega) hmm) (by decide) ?_
  rw [hy1, foundV_s]
  rw [hV2]
  refine stp0 ?_
  rw [← hV2]
  refine Drop_m (n := 10) (by omega) hmm (by decide) (fun o ho => ?_)
  rw [hm, show awT2.strip = awT2 from rfl, awk17_4] at ho
  rw [hm, show awT2.strip = awT2 from rfl, awk17_4]
  have ho : o.strip = tr0 := ho
  have hok : o.kids.length = 0 := by
    have e : o.kids.map Tr.strip = [] := by rw [← Tr.strip_kids, ho]; rfl
    rw [← List.length_map (f := Tr.strip), e]
    rfl
  have hV3 := Tr.V_is o
  rw [hV2]
  refine stp hV3 ?_
  rw [← hV1]
  refine Add_m (n := 10) (by omega) hnm (by decide) (by decide) (fun q hq => ?_)
  rw [hn, show awT1.strip = awT1 from rfl, awk17_5]
  have hV4 := Tr.V_is q
  rw [hV1]
  refine stp (And.intro hV4 (And.intro hyp hok)) ?_
  exact aret_u hs (h)
end
theorem changedS_0 {f : Tr → Tr × Int} {p : List UInt8} {t : Tr} (h : (changedS f p t).2 = 0) : ∃ ns, partsP p = some ns ∧ (downS f ns t).2 = 0 ∧ fitsE (downS f ns t).1 = 0 ∧ (changedS f p t).1 = (downS f ns t).1 := by
  unfold changedS at h ⊢
  cases hp : partsP p with
  | none => rw [hp] at h; exact absurd (show (8 : Int) = 0 from h) (by decide)
  | some ns =>
    rw [hp] at h
    simp only at h ⊢
    by_cases h1 : (downS f ns t).2 = 0
    · rw [if_pos h1] at h
      have h : fitsE (downS f ns t).1 = 0 := h
      refine ⟨ns, rfl, h1, h, ?_⟩
      rw [if_pos h1, if_pos h]
    · rw [if_neg h1] at h
      exact absurd h h1
theorem changedS_eq {f : Tr → Tr × Int} {p : List UInt8} {t : Tr} {ns : List (List UInt8)} (hp : partsP p = some ns) (h1 : (downS f ns t).2 = 0) (h2 : fitsE (downS f ns t).1 = 0) : changedS f p t = ((downS f ns t).1, 0) := by
  unfold changedS
  rw [hp]
  simp only
  rw [if_pos h1, if_pos h2, h2]
theorem walk_is {f : Tr → Tr × Int} {ns : List (List UInt8)} {t : Tr} (h : (downS f ns t).2 = 0) : ∃ x, walkTo t ns = some x := by
  cases hw : walkTo t ns with
  | none => rw [downS_8 hw] at h; exact absurd h (by decide)
  | some x => exact ⟨x, rfl⟩
theorem find_is {p : List UInt8} {ns : List (List UInt8)} {t : Tr} (hp : partsP p = some ns) : findT t p = walkTo t ns := by
  unfold findT
  rw [hp]
theorem setErr {nm v p : List UInt8} {t : Tr} (h : (changedS (setF nm v) p t).2 = 8) : findT t p = none := by
  unfold changedS at h
  cases hp : partsP p with
  | none => unfold findT; rw [hp]
  | some ns =>
    rw [find_is hp]
    rw [hp] at h
    simp only at h
    cases hw : walkTo t ns with
    | none => rfl
    | some x =>
      exfalso
      have hn : NameOk (setF nm v) := fun t => by unfold setF; split <;> rfl
      have h1 := (downS_some hn ns t x hw).1
      have h2 : (setF nm v x).2 = 0 ∨ (setF nm v x).2 = 1 := by unfold setF; split <;> simp
      split at h
      · have h : fitsE (downS (setF nm v) ns t).1 = 8 := h
        unfold fitsE at h
        split at h
        · split at h <;> cases h
        · cases h
      · have h : (downS (setF nm v) ns t).2 = 8 := h
        rw [h1] at h
        rcases h2 with q | q <;> rw [q] at h <;> cases h
theorem setPr_find (nm v : List UInt8) : ∀ l : List (List UInt8 × List UInt8), ((setPr nm v l).find? (fun p => decide (p.1 = nm))).map (·.2) = some v
  | [] => by simp [setPr]
  | x :: l => by
    rw [setPr]
    by_cases h : x.1 = nm
    · rw [if_pos h, List.find?_cons_of_pos (by simpa using h)]
      rfl
    · rw [if_neg h, List.find?_cons_of_neg (by simpa using h), setPr_find nm v l]
theorem cut_set (nm v : List UInt8) : ∀ l : List (List UInt8 × List UInt8), ∃ ps, cutF (fun x : List UInt8 × List UInt8 => decide (x.1 = nm)) (setPr nm v l) = some ps ∧ ps.length ≤ l.length ∧ (l.find? (fun p => decide (p.1 = nm)) = none → ps = l)
  | [] => ⟨[], by simp [setPr, cutF], Nat.le_refl _, fun _ => rfl⟩
  | x :: l => by
    rw [setPr]
    by_cases h : x.1 = nm
    · rw [if_pos h, cutF, if_pos (by simpa using h)]
      refine ⟨l, rfl, by simp, fun q => ?_⟩
      rw [List.find?_cons_of_pos (by simpa using h)] at q
      cases q
    · obtain ⟨ps, h1, h2, h3⟩ := cut_set nm v l
      rw [if_neg h, cutF, if_neg (by simpa using h), h1]
      refine ⟨x :: ps, rfl, by simpa using h2, fun q => ?_⟩
      rw [List.find?_cons_of_neg (by simpa using h)] at q
      rw [h3 q]
def unset2 (nm v : List UInt8) (x : Tr) : Tr × Int := unsetF nm (setF nm v x).1
theorem setF_0 {nm v : List UInt8} {x : Tr} (h : (setF nm v x).2 = 0) : mayL nm = true ∧ (setF nm v x).1 = .mk x.name 0 (setPr nm v x.props) 0 x.kids := by
  unfold setF at h ⊢
  by_cases hm : mayL nm = true
  · rw [if_pos hm]
    exact ⟨hm, rfl⟩
  · rw [if_neg hm] at h
    exact absurd (show (1 : Int) = 0 from h) (by decide)
theorem unset2_is {nm v : List UInt8} (hm : mayL nm = true) (x : Tr) : ∃ ps, unset2 nm v x = (.mk x.name 0 ps 0 x.kids, 0) ∧ ps.length ≤ x.props.length ∧ (valT x nm = none → ps = x.props) := by
  obtain ⟨ps, h1, h2, h3⟩ := cut_set nm v x.props
  refine ⟨ps, ?_, h2, fun q => h3 ?_⟩
  · unfold unset2 setF
    rw [if_pos hm]
    unfold unsetF
    show (match cutF _ (setPr nm v x.props) with
      | some ps => _
      | none => _) = _
    rw [h1]
    rfl
  · unfold valT at q
    simpa using q
theorem nameOk_set (nm v : List UInt8) : NameOk (setF nm v) := fun t => by unfold setF; split <;> rfl
theorem nameOk_add (nm : List UInt8) : NameOk (addF nm) := fun t => by
  unfold addF
  split
  · split <;> rfl
  · rfl
theorem strip_mk (x : Tr) : (Tr.mk x.name 0 x.props 0 x.kids).strip = x.strip := by rw [Tr.strip_is, Tr.strip_eta x]
theorem keepSet {t m : Tr} {nm v p : List UInt8} (he : (changedS (setF nm v) p t.strip).2 = 0) (hf : tFits t = true) (hsz : tsize 12 t ≤ 400) (hm : m.strip = (changedS (setF nm v) p t.strip).1.strip) :
    ∃ x y, findT t p = some x ∧ findT m p = some y ∧ valT y nm = some v ∧ m.kids.length = t.kids.length ∧ (changedS (unsetF nm) p m.strip).2 = 0 ∧ (valT x nm = none → (changedS (unsetF nm) p m.strip).1.strip = t.strip) := by
  obtain ⟨z1, z2⟩ := changedS_s (setF_s nm v) p t
  rw [z1] at he
  rw [z2] at hm
  obtain ⟨ns, hp, h1, h2, h3⟩ := changedS_0 he
  rw [h3] at hm
  obtain ⟨x, hx⟩ := walk_is h1
  obtain ⟨w1, w2⟩ := downS_some (nameOk_set nm v) ns t x hx
  rw [h1] at w1
  obtain ⟨hmay, hsx⟩ := setF_0 w1.symm
  obtain ⟨y, hy1, hy2⟩ := find_alike (p := p) hm (by rw [find_is hp]; exact w2)
  obtain ⟨ps, hps, hpl, hpn⟩ := unset2_is (v := v) hmay x
  have hkeep : ∀ q, (unset2 nm v q).1.kids = q.kids ∧ (unset2 nm v q).1.props.length ≤ q.props.length := fun q => by
    obtain ⟨ps, e1, e2, _⟩ := unset2_is (v := v) hmay q
    rw [e1]
    exact ⟨rfl, e2⟩
  have hnu : NameOk (unset2 nm v) := fun q => by
    obtain ⟨ps, e1, _⟩ := unset2_is (v := v) hmay q
    rw [e1]
    rfl
  have hcomp : downS (unsetF nm) ns (downS (setF nm v) ns t).1 = downS (unset2 nm v) ns t := downS_comp (nameOk_set nm v) ns t x hx
  have hun : changedS (unsetF nm) p (downS (setF nm v) ns t).1 = ((downS (unset2 nm v) ns t).1, 0) := by
    rw [← hcomp]
    refine changedS_eq hp ?_ ?_
    · rw [hcomp, (downS_some hnu ns t x hx).1, hps]
    · rw [hcomp]
      exact fits_down (fun q => (hkeep q).1) (fun q => (hkeep q).2) hf hsz
  obtain ⟨u1, u2⟩ := changedS_s (unsetF_s nm) p (downS (setF nm v) ns t).1
  rw [← hm] at u1 u2
  rw [hun] at u1 u2
  refine ⟨x, y, by rw [find_is hp]; exact hx, hy1, ?_, ?_, u1, fun hv => ?_⟩
  · have e : valT y nm = valT (setF nm v x).1 nm := by rw [← valT_strip, hy2, valT_strip]
    rw [e, hsx]
    unfold valT
    exact setPr_find nm v x.props
  · have e : m.kids.length = (downS (setF nm v) ns t).1.kids.length := by
      rw [← List.length_map (f := Tr.strip), ← Tr.strip_kids, hm, Tr.strip_kids, List.length_map]
    rw [e, downS_kids (fun q => by unfold setF; split <;> rfl)]
  · rw [u2]
    refine (downS_id ns t x hx (by rw [hps]) ?_).2
    rw [hps, hpn hv]
    exact strip_mk x
/-! ### what is added -/
theorem splitA_free (c : UInt8) : ∀ (l acc : List UInt8), c ∉ acc → ∀ s ∈ splitA c acc l, c ∉ s
  | [], acc, h, s, hs => by
    rw [splitA, List.mem_singleton] at hs
    rw [hs]
    exact h
  | b :: l, acc, h, s, hs => by
    rw [splitA] at hs
    split at hs
    · rcases List.mem_cons.1 hs with e | e
      · rw [e]; exact h
      · exact splitA_free c l [] (by simp) s e
    · rename_i hb
      exact splitA_free c l (acc ++ [b]) (by simp [h]; exact fun q => hb q.symm) s hs
theorem parts_good {p : List UInt8} {ns : List (List UInt8)} (h : partsP p = some ns) : ∀ s ∈ ns, goodN s := by
  unfold partsP at h
  by_cases h1 : p = [47]
  · rw [if_pos h1] at h
    obtain rfl := Option.some.inj h
    simp
  · rw [if_neg h1] at h
    by_cases h2 : p.getD 0 0 = 47
    · rw [if_pos h2, scan_split _ _ _ (by simp), List.nil_append] at h
      split at h
      · rename_i hc
        obtain rfl := Option.some.inj h
        refine fun s hs => ⟨fun e => ?_, splitA_free 47 _ [] (by simp) s hs⟩
        rw [e] at hs
        have := hc.1
        rw [List.contains_iff_mem.2 hs] at this
        cases this
      · cases h
    · rw [if_neg h2] at h
      cases h
theorem path_join {ns : List (List UInt8)} : pathOf ns = joinPs ns := by
  unfold pathOf
  split
  · rename_i h
    rw [h]
    rfl
  · rename_i h
    rw [← accP_join h]
    rfl
/-- The path of a kid. -/
def kidP (p nm : List UInt8) : List UInt8 := if p = [47] then p ++ nm else p ++ [47] ++ nm
theorem kidP_path {p nm : List UInt8} {ns : List (List UInt8)} (h : partsP p = some ns) : kidP p nm = pathOf (ns ++ [nm]) := by
  have hj := parts_join h
  rw [← path_join] at hj
  have e : pathOf (ns ++ [nm]) = ns.flatMap (fun n => 47 :: n) ++ 47 :: nm := by
    unfold pathOf
    rw [if_neg (by simp), List.flatMap_append]
    simp
  rw [e]
  unfold kidP
  by_cases h1 : p = [47]
  · rw [if_pos h1]
    have : ns = [] := by
      rw [h1] at h
      exact (Option.some.inj (show some [] = some ns from h)).symm
    rw [this, h1]
    rfl
  · rw [if_neg h1]
    have hne : ns ≠ [] := fun q => h1 (by rw [← hj, q]; rfl)
    have : pathOf ns = ns.flatMap (fun n => 47 :: n) := by
      unfold pathOf
      rw [if_neg hne]
    rw [← hj, this, List.append_assoc]
    rfl
theorem addF_0 {nm : List UInt8} {x : Tr} (h : (addF nm x).2 = 0) : mayK nm = true ∧ hasK nm x.kids = false ∧ (addF nm x).1 = .mk x.name 0 x.props 0 (x.kids ++ [.mk nm 0 [] 0 []]) := by
  unfold addF at h ⊢
  by_cases hm : mayK nm = true
  · rw [if_pos hm] at h ⊢
    by_cases hk : hasK nm x.kids = true
    · rw [if_pos hk] at h
      exact absurd (show (12 : Int) = 0 from h) (by decide)
    · rw [if_neg hk]
      exact ⟨hm, by simpa using hk, rfl⟩
  · rw [if_neg hm] at h
    exact absurd (show (1 : Int) = 0 from h) (by decide)
theorem hasK_no {nm : List UInt8} {ks : List Tr} (h : hasK nm ks = false) : ∀ k ∈ ks, ¬ k.name = nm := fun k hk e => by
  unfold hasK at h
  rw [List.any_eq_false] at h
  exact h k hk (by simpa using e)
theorem mayK_good {nm : List UInt8} (h : mayK nm = true) : goodN nm := by
  unfold mayK mayL at h
  simp only [Bool.and_eq_true, Bool.not_eq_true', decide_eq_false_iff_not, decide_eq_true_eq] at h
  refine ⟨h.1.1.1, fun q => ?_⟩
  have := cut1_mem.2 q
  rw [h.2] at this
  cases this
theorem cut_last {α : Type} {p : α → Bool} {y : α} (hy : p y = true) : ∀ l : List α, (∀ x ∈ l, p x = false) → cutF p (l ++ [y]) = some l
  | [], _ => by rw [List.nil_append, cutF, if_pos hy]
  | x :: l, h => by
    rw [List.cons_append, cutF, if_neg (by rw [h x List.mem_cons_self]; exact Bool.false_ne_true), cut_last hy l (fun z hz => h z (List.mem_cons_of_mem _ hz))]
    rfl
theorem keepAdd {t o : Tr} {nm p : List UInt8} (he : (changedS (addF nm) p t.strip).2 = 0) (hf : tFits t = true) (ho : o.strip = (changedS (addF nm) p t.strip).1.strip) :
    (findT o (kidP p nm)).isSome = true ∧ (dropS (kidP p nm) o.strip).2 = 0 ∧ (dropS (kidP p nm) o.strip).1.strip = t.strip := by
  obtain ⟨z1, z2⟩ := changedS_s (addF_s nm) p t
  rw [z1] at he
  rw [z2] at ho
  obtain ⟨ns, hp, h1, h2, h3⟩ := changedS_0 he
  rw [h3] at ho
  obtain ⟨x, hx⟩ := walk_is h1
  obtain ⟨w1, w2⟩ := downS_some (nameOk_add nm) ns t x hx
  rw [h1] at w1
  obtain ⟨hmay, hno, hsx⟩ := addF_0 w1.symm
  have hgn := mayK_good hmay
  have hno2 := hasK_no hno
  have hk : kidT (addF nm x).1 nm = some (.mk nm 0 [] 0 []) := by
    rw [hsx]
    exact find_of (nm := nm) (k := .mk nm 0 [] 0 []) (post := []) rfl hno2
  have hw : walkTo (downS (addF nm) ns t).1 (ns ++ [nm]) = some (.mk nm 0 [] 0 []) := walkTo_app ns _ _ _ nm w2 hk
  have hl := deep_le h2 hw
  have hpp : partsP (kidP p nm) = some (ns ++ [nm]) := by
    rw [kidP_path hp]
    refine partsP_path (fun s hs => ?_) hl
    rcases List.mem_append.1 hs with q | q
    · exact parts_good hp s q
    · rw [List.mem_singleton] at q
      rw [q]
      exact hgn
  obtain ⟨y, hy1, hy2⟩ := find_alike (p := kidP p nm) ho (by rw [find_is hpp]; exact hw)
  have hcomp : downS (dropF nm) ns (downS (addF nm) ns t).1 = downS (fun x => dropF nm (addF nm x).1) ns t := downS_comp (nameOk_add nm) ns t x hx
  have hdx : dropF nm (addF nm x).1 = (.mk x.name 0 x.props 0 x.kids, 0) := by
    rw [hsx]
    unfold dropF
    show (match cutF _ (x.kids ++ [.mk nm 0 [] 0 []]) with
      | some ks => _
      | none => _) = _
    rw [cut_last (by simp [Tr.name]) x.kids (fun k hk => by simpa using hno2 k hk)]
    rfl
  obtain ⟨i1, i2⟩ := downS_id (h := fun x => dropF nm (addF nm x).1) ns t x hx (by show (dropF nm (addF nm x).1).2 = 0; rw [hdx]) (by show (dropF nm (addF nm x).1).1.strip = x.strip; rw [hdx]; exact strip_mk x)
  have hd : changedS (dropF nm) p (downS (addF nm) ns t).1 = ((downS (fun x => dropF nm (addF nm x).1) ns t).1, 0) := by
    rw [← hcomp]
    refine changedS_eq hp ?_ ?_
    · rw [hcomp]; exact i1
    · rw [hcomp, fitsE_same i2]
      exact fits_0 hf
  have hdr : dropS (kidP p nm) (downS (addF nm) ns t).1 = ((downS (fun x => dropF nm (addF nm x).1) ns t).1, 0) := by
    unfold dropS
    rw [hpp]
    show (if ns ++ [nm] = [] then _ else changedS (dropF ((ns ++ [nm]).getD ((ns ++ [nm]).length - 1) [])) (joinPs ((ns ++ [nm]).take ((ns ++ [nm]).length - 1))) _) = _
    have e1 : (ns ++ [nm]).length - 1 = ns.length := by simp
    have e2 : (ns ++ [nm]).getD ns.length [] = nm := by simp
    rw [if_neg (by simp), e1, e2, List.take_left, parts_join hp, hd]
  obtain ⟨u1, u2⟩ := dropS_s (kidP p nm) (downS (addF nm) ns t).1
  rw [← ho, hdr] at u1 u2
  exact ⟨by rw [hy1]; rfl, u1, u2.trans i2⟩
end Go.Proofs.YtdknpnmdjjmapaaDoor.AL
/- How arrays of texts are opened. Over any program. -/
namespace Go.Proofs.YtdknpnmdjjmapaaDoor.AL
open Go Go.Proofs Go.RowKit
theorem opens_arrS {P : Program} {t e : TypeId} {n : Nat} (hu : P.underlying t = some (.array n e)) (he : P.underlying e = some .string) (hce : P.cellsOf e = 1) (hct : P.cellsOf t = n) :
    Opens P t (fun zs => ∃ ss : List ByteArray, zs = ss.map AV.str ∧ ss.length = n ∧ ∀ s ∈ ss, s.size ≤ 9223372036854775807) := by
  intro fuel H enc W cs x h
  obtain ⟨xs, m, rfl, rfl, hl, hx, hi⟩ := DataW.trod_array hu h
  rw [hct] at hl
  have key : ∀ i (hi' : i < cs.length), ∃ z : ByteArray, cs[i] = .string z ∧ z.size ≤ 9223372036854775807 := by
    intro i hi'
    have h0 := hi i (by omega)
    rw [hce, Nat.mul_one, List.getElem?_eq_getElem (by omega), List.drop_eq_getElem_cons hi', List.take_succ_cons, List.take_zero] at h0
    obtain ⟨n0, e0, _, w0⟩ := DataW.trod_string he h0
    have f0 : [cs[i]] = [Value.string n0] := e0
    injection f0 with g0 _
    exact ⟨n0, g0, w0⟩
  have all : ∀ (l : List Value), (∀ v ∈ l, ∃ z : ByteArray, v = .string z ∧ z.size ≤ 9223372036854775807) → ∃ ns : List ByteArray, l = ns.map Value.string ∧ ∀ m ∈ ns, m.size ≤ 9223372036854775807 := by
    intro l
    induction l with
    | nil => exact fun _ => ⟨[], rfl, by simp⟩
    | cons v l ih =>
      intro hv
      obtain ⟨z, rfl, hz⟩ := hv v (by simp)
      obtain ⟨ns, rfl, hns⟩ := ih (fun u hu => hv u (by simp [hu]))
      exact ⟨z :: ns, rfl, by simpa using ⟨hz, hns⟩⟩
  obtain ⟨ns, rfl, hns⟩ := all cs (fun v hv => by
    obtain ⟨i, hi', rfl⟩ := List.getElem_of_mem hv
    exact key i hi')
  refine ⟨ns.map AV.str, ⟨by simp, fun i v y hv hy => ?_⟩, ns, rfl, by simpa using hl, hns⟩
  rw [List.getElem?_map] at hv hy
  obtain ⟨a, ha, rfl⟩ := Option.map_eq_some_iff.1 hv
  obtain ⟨b, hb, rfl⟩ := Option.map_eq_some_iff.1 hy
  rw [ha] at hb
  obtain rfl := Option.some.inj hb
  exact .str _
open Go.WideShapes in
theorem okWide_array {P : Program} {w : World} {r : Reach} {base : Nat} {t e : TypeId} {n : Nat} {v : Value} (ht : P.underlying t = some (.array n e)) (h : Value.okWide P w r base t v) : ∃ cs, v = .agg cs ∧ cs.size = P.cellsOf t := by
  simp only [Value.okWide, ht] at h
  obtain ⟨cs, h1, h2, _⟩ := h
  exact ⟨cs, h1, h2⟩
end Go.Proofs.YtdknpnmdjjmapaaDoor.AL
/- Trees told: the law of what is kept. -/
namespace Go.Proofs.YtdknpnmdjjmapaaDoor.AL
open Go Go.Proofs
attribute [local go_sem] go_seq go_skip go_region go_regionN go_fregion rgF_some go_cond go_block go_exit go_ret nxt_nil nxt_code nxt_blk nxt_cut leave_nil leave_code leave_cut leave_blk rtn_nil rtn_code rtn_blk rtn_cut cnd_t cnd_f rgn_nil rgY_some rgY_none rgH_some rgP_some retTo_is rgV_func grd_und grd_tt grd_ff grd_tf grd_ft rgn_q rgn_alloc rgn_box rgn_store rgn_lit rgn_litw litCells_nil litCells_cons rgn_app rgn_copy rgn_mk rgn_s2b rgn_call rgn_callv rgn_stop rgn_slice3 aslice3 rgn_slice3l aslice3l rgn_appz rgn_clear rgn_range rgn_next arange acap rgn_put rgn_mkmap rgn_lookup rgn_mapup alookup_nilm alookup_map amapup_map afound_ok afound_no rgn_c rgn_cv qclV_func aloadr rgn_guard post_ret post_normal retY_some ares aresL ares1 AX.ev aput List.getD_cons_zero List.getD_cons_succ List.set_cons_zero List.set_cons_succ List.map_cons List.map_nil aq abin aint astr abeq aconv asame aextract alenS alenL_nils alenL_emp alenL_imm alenL_wr alenL_wc aun apart aload afieldAddr afield aidxSl_wr aidxSl_wc aidxSl_imm aidxPt aidxStr aidxArr abound asliceStr asliceSl asliceArr abest anonil afill astore acells_nils acells_emp acells_imm acells_wr acells_wc acells_str acopy litAll amk as2b anil nilOf aseq aeqs aeqv fits fit1 hp_next hp_push hp_get hp_set List.length_cons List.length_nil List.getElem?_cons_zero List.getElem?_cons_succ List.cons_append List.nil_append List.append_nil List.take_succ_cons List.take_zero List.drop_succ_cons List.drop_zero List.all_cons List.all_nil Option.map_some Option.some.injEq Bool.and_true Bool.true_and Bool.false_eq_true if_true if_false ite_true ite_false Bool.and_self true_and and_true and_self Nat.zero_add Nat.le_refl Int.toNat_natCast beq_self_eq_true eq_self tops_zero tops_succ Int.natCast_nonneg List.take_nil List.drop_nil Option.map_none flat_bool one_bool cells_bool flat_int one_int cells_int flat_str one_str cells_str flat_nilp one_nilp cells_nilp flat_ptr one_ptr cells_ptr flat_nils one_nils cells_nils flat_imm one_imm cells_imm flat_wr one_wr cells_wr flat_wc one_wc cells_wc flat_func one_func cells_func flat_nilf one_nilf cells_nilf flat_map one_map cells_map flat_nilm one_nilm cells_nilm flat_iface one_iface cells_iface flat_nili one_nili cells_nili flat_rd one_rd cells_rd flat_emp one_emp cells_emp flat_byteV one_byteV cells_byteV flat_agg cells_agg one_agg B_size B_list B_ext B_toList B_app List.take_length Int.le_refl
def YArrS3 (zs : List AV) : Prop := ∃ ss : List ByteArray, zs = ss.map AV.str ∧ ss.length = 3 ∧ ∀ s ∈ ss, s.size ≤ 9223372036854775807
theorem openArrS3 : Opens Tryd.prog 39 YArrS3 := opens_arrS Tryd.underlying39 Tryd.underlying9 (by kernel_rfl) (by kernel_rfl)
theorem arrS3_of {zs : List AV} (h : YArrS3 zs) : ∃ p nm v : List UInt8, zs = [.str (B p), .str (B nm), .str (B v)] := by
  obtain ⟨ss, rfl, h1, _⟩ := h
  match ss, h1 with
  | [a, b, c], _ => exact ⟨a.data.toList, b.data.toList, c.data.toList, by simp [B_of]⟩
theorem law_EditKeeps (ys0 ys1 : List AV) (hY0 : YTr ys0) (hY1 : YArrS3 ys1) {H : AHeap} : (ACalls Tryd.prog) 4 [.agg ys0, .agg ys1] H (fun y _ => y = .bool true) := by
  obtain ⟨t, ho, rfl⟩ := hY0
  obtain ⟨p, nm, v, rfl⟩ := arrS3_of hY1
  have hVi := Tr.V_is t
  rw [show AV.agg t.cells = t.V from rfl]
  refine acalls_go mo t4 (fun hs hu => ?_)
  simp only [c4, Tr.V_is, go_sem, Nat.reduceLeDiff, Nat.reduceAdd, Nat.reduceSub, Nat.reduceMul, Nat.reduceLT, Int.reduceLT, Int.reduceLE, Int.reduceAdd, Int.reduceSub, Int.reduceMul, Int.reduceToNat, Int.reduceNeg, Int.reduceEq, Nat.reducePow, Int.reducePow, Nat.reduceEqDiff, decide_true, decide_false, reduceIte, reduceCtorEq, Int.reduceBEq, Int.reduceBNe, bne_self_eq_false, Int.cast_ofNat_Int, Bool.not_true, Bool.not_false, IntKind.bits]
  rw [← hVi]
  refine Low_a ho ?_
  cases hw : tLow t with
  | false =>
    simp (maxSteps := 4000000) (disch := (first | omega | (simp only [set_next, List.length_append, List.length_cons, List.length_nil, List.length_take, List.length_drop, List.length_map, List.length_set, List.length_replicate]; omega) | (simp only [set_next, ne_eq, reduceCtorEq, not_false_eq_true]))) only [go_sem, Nat.reduceLeDiff, Nat.reduceAdd, Nat.reduceSub, Nat.reduceMul, Nat.reduceLT, Int.reduceLT, Int.reduceLE, Int.reduceAdd, Int.reduceSub, Int.reduceMul, Int.reduceToNat, Int.reduceNeg, Int.reduceEq, Nat.reducePow, Int.reducePow, Nat.reduceEqDiff, decide_true, decide_false, reduceIte, reduceCtorEq, Int.reduceBEq, Int.reduceBNe, bne_self_eq_false, Int.cast_ofNat_Int, Bool.not_true, Bool.not_false, IntKind.bits, w_nat, w_lit, w_add, w_addl, w_ladd, w_sub, w_subl, w_lsub, w_mul, w_mull, w_lmul, t_div, t_divl, t_mod, t_modl, i_lt, i_ltl, i_llt, i_le, i_lel, i_lle, i_eq, i_eql, i_leq, Nat.zero_le, d_beq, d_bne, d_bytes, byte_at, Int.toNat_natCast, toNat_lit, decide_eq_true, decide_eq_false, if_pos, if_neg, slA_len, slA_idx, slA_cells, flat_slA, one_slA, cells_slA, map_mid, strV_is, hp_get1, hp_get2, hp_get3, hp_set1, hp_set2, hp_set3, hp_old, hp_sold, set_got, set_set, set_next, set_other, bytesL, bytes_all, List.length_map, aapp_nils, aapp_wr, List.flatMap_cons, List.flatMap_nil, Nat.mul_one]
    refine awake17_a ?_
    simp (maxSteps := 4000000) (disch := (first | omega | (simp only [set_next, List.length_append, List.length_cons, List.length_nil, List.length_take, List.length_drop, List.length_map, List.length_set, List.length_replicate]; omega) | (simp only [set_next, ne_eq, reduceCtorEq, not_false_eq_true]))) only [go_sem, Nat.reduceLeDiff, Nat.reduceAdd, Nat.reduceSub, Nat.reduceMul, Nat.reduceLT, Int.reduceLT, Int.reduceLE, Int.reduceAdd, Int.reduceSub, Int.reduceMul, Int.reduceToNat, Int.reduceNeg, Int.reduceEq, Nat.reducePow, Int.reducePow, Nat.reduceEqDiff, decide_true, decide_false, reduceIte, reduceCtorEq, Int.reduceBEq, Int.reduceBNe, bne_self_eq_false, Int.cast_ofNat_Int, Bool.not_true, Bool.not_false, IntKind.bits, w_nat, w_lit, w_add, w_addl, w_ladd, w_sub, w_subl, w_lsub, w_mul, w_mull, w_lmul, t_div, t_divl, t_mod, t_modl, i_lt, i_ltl, i_llt, i_le, i_lel, i_lle, i_eq, i_eql, i_leq, Nat.zero_le, d_beq, d_bne, d_bytes, byte_at, Int.toNat_natCast, toNat_lit, decide_eq_true, decide_eq_false, if_pos, if_neg, slA_len, slA_idx, slA_cells, flat_slA, one_slA, cells_slA, map_mid, strV_is, hp_get1, hp_get2, hp_get3, hp_set1, hp_set2, hp_set3, hp_old, hp_sold, set_got, set_set, set_next, set_other, bytesL, bytes_all, List.length_map, aapp_nils, aapp_wr, List.flatMap_cons, List.flatMap_nil, Nat.mul_one]
    exact aret_plain (K := fun y _ => y = .bool true) hs (.bool _) rfl
  | true =>
    have htm := trm_low 12 t (low12 hw)
    have hsz : tsize 12 t ≤ 400 := by
      unfold tLow at hw
      rw [Bool.and_eq_true] at hw
      exact of_decide_eq_true hw.2
    simp (maxSteps := 4000000) (disch := (first | omega | (simp only [set_next, List.length_append, List.length_cons, List.length_nil, List.length_take, List.length_drop, List.length_map, List.length_set, List.length_replicate]; omega) | (simp only [set_next, ne_eq, reduceCtorEq, not_false_eq_true]))) only [go_sem, Nat.reduceLeDiff, Nat.reduceAdd, Nat.reduceSub, Nat.reduceMul, Nat.reduceLT, Int.reduceLT, Int.reduceLE, Int.reduceAdd, Int.reduceSub, Int.reduceMul, Int.reduceToNat, Int.reduceNeg, Int.reduceEq, Nat.reducePow, Int.reducePow, Nat.reduceEqDiff, decide_true, decide_false, reduceIte, reduceCtorEq, Int.reduceBEq, Int.reduceBNe, bne_self_eq_false, Int.cast_ofNat_Int, Bool.not_true, Bool.not_false, IntKind.bits, w_nat, w_lit, w_add, w_addl, w_ladd, w_sub, w_subl, w_lsub, w_mul, w_mull, w_lmul, t_div, t_divl, t_mod, t_modl, i_lt, i_ltl, i_llt, i_le, i_lel, i_lle, i_eq, i_eql, i_leq, Nat.zero_le, d_beq, d_bne, d_bytes, byte_at, Int.toNat_natCast, toNat_lit, decide_eq_true, decide_eq_false, if_pos, if_neg, slA_len, slA_idx, slA_cells, flat_slA, one_slA, cells_slA, map_mid, strV_is, hp_get1, hp_get2, hp_get3, hp_set1, hp_set2, hp_set3, hp_old, hp_sold, set_got, set_set, set_next, set_other, bytesL, bytes_all, List.length_map, aapp_nils, aapp_wr, List.flatMap_cons, List.flatMap_nil, Nat.mul_one]
    rw [← hVi]
    refine rFits_a ho ?_
    cases hf : tFits t with
    | false =>
      simp (maxSteps := 4000000) (disch := (first | omega | (simp only [set_next, List.length_append, List.length_cons, List.length_nil, List.length_take, List.length_drop, List.length_map, List.length_set, List.length_replicate]; omega) | (simp only [set_next, ne_eq, reduceCtorEq, not_false_eq_true]))) only [go_sem, Nat.reduceLeDiff, Nat.reduceAdd, Nat.reduceSub, Nat.reduceMul, Nat.reduceLT, Int.reduceLT, Int.reduceLE, Int.reduceAdd, Int.reduceSub, Int.reduceMul, Int.reduceToNat, Int.reduceNeg, Int.reduceEq, Nat.reducePow, Int.reducePow, Nat.reduceEqDiff, decide_true, decide_false, reduceIte, reduceCtorEq, Int.reduceBEq, Int.reduceBNe, bne_self_eq_false, Int.cast_ofNat_Int, Bool.not_true, Bool.not_false, IntKind.bits, w_nat, w_lit, w_add, w_addl, w_ladd, w_sub, w_subl, w_lsub, w_mul, w_mull, w_lmul, t_div, t_divl, t_mod, t_modl, i_lt, i_ltl, i_llt, i_le, i_lel, i_lle, i_eq, i_eql, i_leq, Nat.zero_le, d_beq, d_bne, d_bytes, byte_at, Int.toNat_natCast, toNat_lit, decide_eq_true, decide_eq_false, if_pos, if_neg, slA_len, slA_idx, slA_cells, flat_slA, one_slA, cells_slA, map_mid, strV_is, hp_get1, hp_get2, hp_get3, hp_set1, hp_set2, hp_set3, hp_old, hp_sold, set_got, set_set, set_next, set_other, bytesL, bytes_all, List.length_map, aapp_nils, aapp_wr, List.flatMap_cons, List.flatMap_nil, Nat.mul_one]
      refine awake17_a ?_
      simp (maxSteps := 4000000) (disch := (first | omega | (simp only [set_next, List.length_append, List.length_cons, List.length_nil, List.length_take, List.length_drop, List.length_map, List.length_set, List.length_replicate]; omega) | (simp only [set_next, ne_eq, reduceCtorEq, not_false_eq_true]))) only [go_sem, Nat.reduceLeDiff, Nat.reduceAdd, Nat.reduceSub, Nat.reduceMul, Nat.reduceLT, Int.reduceLT, Int.reduceLE, Int.reduceAdd, Int.reduceSub, Int.reduceMul, Int.reduceToNat, Int.reduceNeg, Int.reduceEq, Nat.reducePow, Int.reducePow, Nat.reduceEqDiff, decide_true, decide_false, reduceIte, reduceCtorEq, Int.reduceBEq, Int.reduceBNe, bne_self_eq_false, Int.cast_ofNat_Int, Bool.not_true, Bool.not_false, IntKind.bits, w_nat, w_lit, w_add, w_addl, w_ladd, w_sub, w_subl, w_lsub, w_mul, w_mull, w_lmul, t_div, t_divl, t_mod, t_modl, i_lt, i_ltl, i_llt, i_le, i_lel, i_lle, i_eq, i_eql, i_leq, Nat.zero_le, d_beq, d_bne, d_bytes, byte_at, Int.toNat_natCast, toNat_lit, decide_eq_true, decide_eq_false, if_pos, if_neg, slA_len, slA_idx, slA_cells, flat_slA, one_slA, cells_slA, map_mid, strV_is, hp_get1, hp_get2, hp_get3, hp_set1, hp_set2, hp_set3, hp_old, hp_sold, set_got, set_set, set_next, set_other, bytesL, bytes_all, List.length_map, aapp_nils, aapp_wr, List.flatMap_cons, List.flatMap_nil, Nat.mul_one]
      exact aret_plain (K := fun y _ => y = .bool true) hs (.bool _) rfl
    | true =>
      by_cases h1 : p.length ≤ 200
      · by_cases h2 : nm.length ≤ 100
        · by_cases h3 : v.length ≤ 300
          · simp (maxSteps := 4000000) (disch := (first | omega | (simp only [set_next, List.length_append, List.length_cons, List.length_nil, List.length_take, List.length_drop, List.length_map, List.length_set, List.length_replicate]; omega) | (simp only [set_next, ne_eq, reduceCtorEq, not_false_eq_true]))) only [h1, h2, h3, go_sem, Nat.reduceLeDiff, Nat.reduceAdd, Nat.reduceSub, Nat.reduceMul, Nat.reduceLT, Int.reduceLT, Int.reduceLE, Int.reduceAdd, Int.reduceSub, Int.reduceMul, Int.reduceToNat, Int.reduceNeg, Int.reduceEq, Nat.reducePow, Int.reducePow, Nat.reduceEqDiff, decide_true, decide_false, reduceIte, reduceCtorEq, Int.reduceBEq, Int.reduceBNe, bne_self_eq_false, Int.cast_ofNat_Int, Bool.not_true, Bool.not_false, IntKind.bits, w_nat, w_lit, w_add, w_addl, w_ladd, w_sub, w_subl, w_lsub, w_mul, w_mull, w_lmul, t_div, t_divl, t_mod, t_modl, i_lt, i_ltl, i_llt, i_le, i_lel, i_lle, i_eq, i_eql, i_leq, Nat.zero_le, d_beq, d_bne, d_bytes, byte_at, Int.toNat_natCast, toNat_lit, decide_eq_true, decide_eq_false, if_pos, if_neg, slA_len, slA_idx, slA_cells, flat_slA, one_slA, cells_slA, map_mid, strV_is, hp_get1, hp_get2, hp_get3, hp_set1, hp_set2, hp_set3, hp_old, hp_sold, set_got, set_set, set_next, set_other, bytesL, bytes_all, List.length_map, aapp_nils, aapp_wr, List.flatMap_cons, List.flatMap_nil, Nat.mul_one]
            rw [← hVi]
            refine find_a ho (by omega) ?_
            rw [foundV_is]
            have hxok := fun x (hx : findT t p = some x) => findT_ok ho hx
            have hxo := getD_ok hxok
            have hkS := fun (m : Tr) he hm => keepSet (t := t) (m := m) (nm := nm) (v := v) (p := p) he hf hsz hm
            have hkA := fun (o : Tr) he hm => keepAdd (t := t) (o := o) (nm := nm) (p := p) he hf hm
            have hE := setErr (nm := nm) (v := v) (p := p) (t := t.strip)
            rw [findT_strip] at hE
            generalize hfx : findT t p = fx at *
            have hVx := Tr.V_is (fx.getD tr0)
            simp (maxSteps := 4000000) (disch := (first | omega | (simp only [set_next, List.length_append, List.length_cons, List.length_nil, List.length_take, List.length_drop, List.length_map, List.length_set, List.length_replicate]; omega) | (simp only [set_next, ne_eq, reduceCtorEq, not_false_eq_true]))) only [go_sem, Nat.reduceLeDiff, Nat.reduceAdd, Nat.reduceSub, Nat.reduceMul, Nat.reduceLT, Int.reduceLT, Int.reduceLE, Int.reduceAdd, Int.reduceSub, Int.reduceMul, Int.reduceToNat, Int.reduceNeg, Int.reduceEq, Nat.reducePow, Int.reducePow, Nat.reduceEqDiff, decide_true, decide_false, reduceIte, reduceCtorEq, Int.reduceBEq, Int.reduceBNe, bne_self_eq_false, Int.cast_ofNat_Int, Bool.not_true, Bool.not_false, IntKind.bits, w_nat, w_lit, w_add, w_addl, w_ladd, w_sub, w_subl, w_lsub, w_mul, w_mull, w_lmul, t_div, t_divl, t_mod, t_modl, i_lt, i_ltl, i_llt, i_le, i_lel, i_lle, i_eq, i_eql, i_leq, Nat.zero_le, d_beq, d_bne, d_bytes, byte_at, Int.toNat_natCast, toNat_lit, decide_eq_true, decide_eq_false, if_pos, if_neg, slA_len, slA_idx, slA_cells, flat_slA, one_slA, cells_slA, map_mid, strV_is, hp_get1, hp_get2, hp_get3, hp_set1, hp_set2, hp_set3, hp_old, hp_sold, set_got, set_set, set_next, set_other, bytesL, bytes_all, List.length_map, aapp_nils, aapp_wr, List.flatMap_cons, List.flatMap_nil, Nat.mul_one]
            rw [← hVi]
            refine Set_m (by omega) htm (by omega) (by omega) (by omega) (fun m hm => ?_)
            have hmm := trm_same hm (changedS_m (p := p) (setF_m (n := 300) (nm := nm) (v := v) (by omega) (by omega)) (trm_strip htm))
            have hmo := trm_ok (by omega) hmm
            have hVm := Tr.V_is m
            have hkS := fun he => hkS m he hm
            generalize changedS (setF nm v) p t.strip = r at *
            rw [hVi]
            have hE2 : r.2 = 8 → fx.isSome = false := fun q => by
              have := hE q
              cases fx with
              | none => rfl
              | some x => cases this
            have hall : ¬ r.2 = 0 ∨ (r.2 = 0 ∧ fx.isSome = true ∧ ∃ y, findT m p = some y ∧ valT y nm = some v ∧ m.kids.length = t.kids.length ∧ (changedS (unsetF nm) p m.strip).2 = 0 ∧ ((valT (fx.getD tr0) nm).isSome = true ∨ (valT (fx.getD tr0) nm).isSome = false ∧ (changedS (unsetF nm) p m.strip).1.strip = t.strip)) := by
              by_cases he : r.2 = 0
              · obtain ⟨x, y, e1, e2, e3, e4, e5, e6⟩ := hkS he
                subst e1
                refine .inr ⟨he, rfl, y, e2, e3, e4, e5, ?_⟩
                show (valT x nm).isSome = true ∨ (valT x nm).isSome = false ∧ _
                cases hv : valT x nm with
                | none => exact .inr ⟨rfl, e6 hv⟩
                | some w => exact .inl rfl
              · exact .inl he
            clear hkS hE
            rcases hall with he | ⟨he, hfs, y, e2, e3, e4, e5, e6⟩
            case' inl => simp (maxSteps := 4000000) (disch := (first | omega | (simp only [set_next, List.length_append, List.length_cons, List.length_nil, List.length_take, List.length_drop, List.length_map, List.length_set, List.length_replicate]; omega) | (simp only [set_next, ne_eq, reduceCtorEq, not_false_eq_true]))) only [he, hVm, go_sem, Nat.reduceLeDiff, Nat.reduceAdd, Nat.reduceSub, Nat.reduceMul, Nat.reduceLT, Int.reduceLT, Int.reduceLE, Int.reduceAdd, Int.reduceSub, Int.reduceMul, Int.reduceToNat, Int.reduceNeg, Int.reduceEq, Nat.reducePow, Int.reducePow, Nat.reduceEqDiff, decide_true, decide_false, reduceIte, reduceCtorEq, Int.reduceBEq, Int.reduceBNe, bne_self_eq_false, Int.cast_ofNat_Int, Bool.not_true, Bool.not_false, IntKind.bits, w_nat, w_lit, w_add, w_addl, w_ladd, w_sub, w_subl, w_lsub, w_mul, w_mull, w_lmul, t_div, t_divl, t_mod, t_modl, i_lt, i_ltl, i_llt, i_le, i_lel, i_lle, i_eq, i_eql, i_leq, Nat.zero_le, d_beq, d_bne, d_bytes, byte_at, Int.toNat_natCast, toNat_lit, decide_eq_true, decide_eq_false, if_pos, if_neg, slA_len, slA_idx, slA_cells, flat_slA, one_slA, cells_slA, map_mid, strV_is, hp_get1, hp_get2, hp_get3, hp_set1, hp_set2, hp_set3, hp_old, hp_sold, set_got, set_set, set_next, set_other, bytesL, bytes_all, List.length_map, aapp_nils, aapp_wr, List.flatMap_cons, List.flatMap_nil, Nat.mul_one]
            case' inr =>
              simp (maxSteps := 4000000) (disch := (first | omega | (simp only [set_next, List.length_append, List.length_cons, List.length_nil, List.length_take, List.length_drop, List.length_map, List.length_set, List.length_replicate]; omega) | (simp only [set_next, ne_eq, reduceCtorEq, not_false_eq_true]))) only [he, hVm, go_sem, Nat.reduceLeDiff, Nat.reduceAdd, Nat.reduceSub, Nat.reduceMul, Nat.reduceLT, Int.reduceLT, Int.reduceLE, Int.reduceAdd, Int.reduceSub, Int.reduceMul, Int.reduceToNat, Int.reduceNeg, Int.reduceEq, Nat.reducePow, Int.reducePow, Nat.reduceEqDiff, decide_true, decide_false, reduceIte, reduceCtorEq, Int.reduceBEq, Int.reduceBNe, bne_self_eq_false, Int.cast_ofNat_Int, Bool.not_true, Bool.not_false, IntKind.bits, w_nat, w_lit, w_add, w_addl, w_ladd, w_sub, w_subl, w_lsub, w_mul, w_mull, w_lmul, t_div, t_divl, t_mod, t_modl, i_lt, i_ltl, i_llt, i_le, i_lel, i_lle, i_eq, i_eql, i_leq, Nat.zero_le, d_beq, d_bne, d_bytes, byte_at, Int.toNat_natCast, toNat_lit, decide_eq_true, decide_eq_false, if_pos, if_neg, slA_len, slA_idx, slA_cells, flat_slA, one_slA, cells_slA, map_mid, strV_is, hp_get1, hp_get2, hp_get3, hp_set1, hp_set2, hp_set3, hp_old, hp_sold, set_got, set_set, set_next, set_other, bytesL, bytes_all, List.length_map, aapp_nils, aapp_wr, List.flatMap_cons, List.flatMap_nil, Nat.mul_one]
              rw [← hVm]
              refine find_a hmo (by omega) ?_
              rw [e2, foundV_s]
              have hyo := findT_ok hmo e2
              have hVy := Tr.V_is y
              rw [hVm]
              simp (maxSteps := 4000000) (disch := (first | omega | (simp only [set_next, List.length_append, List.length_cons, List.length_nil, List.length_take, List.length_drop, List.length_map, List.length_set, List.length_replicate]; omega) | (simp only [set_next, ne_eq, reduceCtorEq, not_false_eq_true]))) only [go_sem, Nat.reduceLeDiff, Nat.reduceAdd, Nat.reduceSub, Nat.reduceMul, Nat.reduceLT, Int.reduceLT, Int.reduceLE, Int.reduceAdd, Int.reduceSub, Int.reduceMul, Int.reduceToNat, Int.reduceNeg, Int.reduceEq, Nat.reducePow, Int.reducePow, Nat.reduceEqDiff, decide_true, decide_false, reduceIte, reduceCtorEq, Int.reduceBEq, Int.reduceBNe, bne_self_eq_false, Int.cast_ofNat_Int, Bool.not_true, Bool.not_false, IntKind.bits, w_nat, w_lit, w_add, w_addl, w_ladd, w_sub, w_subl, w_lsub, w_mul, w_mull, w_lmul, t_div, t_divl, t_mod, t_modl, i_lt, i_ltl, i_llt, i_le, i_lel, i_lle, i_eq, i_eql, i_leq, Nat.zero_le, d_beq, d_bne, d_bytes, byte_at, Int.toNat_natCast, toNat_lit, decide_eq_true, decide_eq_false, if_pos, if_neg, slA_len, slA_idx, slA_cells, flat_slA, one_slA, cells_slA, map_mid, strV_is, hp_get1, hp_get2, hp_get3, hp_set1, hp_set2, hp_set3, hp_old, hp_sold, set_got, set_set, set_next, set_other, bytesL, bytes_all, List.length_map, aapp_nils, aapp_wr, List.flatMap_cons, List.flatMap_nil, Nat.mul_one]
              rw [← hVy]
              refine rValue_a hyo ?_
              rw [e3, show valV (some v) = .tup [.str (B v), .bool true] from rfl]
              rw [hVy]
              simp (maxSteps := 4000000) (disch := (first | omega | (simp only [set_next, List.length_append, List.length_cons, List.length_nil, List.length_take, List.length_drop, List.length_map, List.length_set, List.length_replicate]; omega) | (simp only [set_next, ne_eq, reduceCtorEq, not_false_eq_true]))) only [go_sem, Nat.reduceLeDiff, Nat.reduceAdd, Nat.reduceSub, Nat.reduceMul, Nat.reduceLT, Int.reduceLT, Int.reduceLE, Int.reduceAdd, Int.reduceSub, Int.reduceMul, Int.reduceToNat, Int.reduceNeg, Int.reduceEq, Nat.reducePow, Int.reducePow, Nat.reduceEqDiff, decide_true, decide_false, reduceIte, reduceCtorEq, Int.reduceBEq, Int.reduceBNe, bne_self_eq_false, Int.cast_ofNat_Int, Bool.not_true, Bool.not_false, IntKind.bits, w_nat, w_lit, w_add, w_addl, w_ladd, w_sub, w_subl, w_lsub, w_mul, w_mull, w_lmul, t_div, t_divl, t_mod, t_modl, i_lt, i_ltl, i_llt, i_le, i_lel, i_lle, i_eq, i_eql, i_leq, Nat.zero_le, d_beq, d_bne, d_bytes, byte_at, Int.toNat_natCast, toNat_lit, decide_eq_true, decide_eq_false, if_pos, if_neg, slA_len, slA_idx, slA_cells, flat_slA, one_slA, cells_slA, map_mid, strV_is, hp_get1, hp_get2, hp_get3, hp_set1, hp_set2, hp_set3, hp_old, hp_sold, set_got, set_set, set_next, set_other, bytesL, bytes_all, List.length_map, aapp_nils, aapp_wr, List.flatMap_cons, List.flatMap_nil, Nat.mul_one]
              rw [← hVx]
              refine rValue_a hxo ?_
              rw [valV_is]
              generalize (valT (fx.getD tr0) nm).getD [] = w
              rw [hVx]
              simp (maxSteps := 4000000) (disch := (first | omega | (simp only [set_next, List.length_append, List.length_cons, List.length_nil, List.length_take, List.length_drop, List.length_map, List.length_set, List.length_replicate]; omega) | (simp only [set_next, ne_eq, reduceCtorEq, not_false_eq_true]))) only [go_sem, Nat.reduceLeDiff, Nat.reduceAdd, Nat.reduceSub, Nat.reduceMul, Nat.reduceLT, Int.reduceLT, Int.reduceLE, Int.reduceAdd, Int.reduceSub, Int.reduceMul, Int.reduceToNat, Int.reduceNeg, Int.reduceEq, Nat.reducePow, Int.reducePow, Nat.reduceEqDiff, decide_true, decide_false, reduceIte, reduceCtorEq, Int.reduceBEq, Int.reduceBNe, bne_self_eq_false, Int.cast_ofNat_Int, Bool.not_true, Bool.not_false, IntKind.bits, w_nat, w_lit, w_add, w_addl, w_ladd, w_sub, w_subl, w_lsub, w_mul, w_mull, w_lmul, t_div, t_divl, t_mod, t_modl, i_lt, i_ltl, i_llt, i_le, i_lel, i_lle, i_eq, i_eql, i_leq, Nat.zero_le, d_beq, d_bne, d_bytes, byte_at, Int.toNat_natCast, toNat_lit, decide_eq_true, decide_eq_false, if_pos, if_neg, slA_len, slA_idx, slA_cells, flat_slA, one_slA, cells_slA, map_mid, strV_is, hp_get1, hp_get2, hp_get3, hp_set1, hp_set2, hp_set3, hp_old, hp_sold, set_got, set_set, set_next, set_other, bytesL, bytes_all, List.length_map, aapp_nils, aapp_wr, List.flatMap_cons, List.flatMap_nil, Nat.mul_one]
              rw [← hVm]
              refine Unset_m (by omega) hmm (by omega) (fun b hb => ?_)
              have hbm := trm_same hb (changedS_m (p := p) unsetF_m (trm_strip hmm))
              rw [e5]
              have hVb := Tr.V_is b
              rw [hVm]
              rcases e6 with e6 | ⟨e6, e7⟩
              case' inl => simp (maxSteps := 4000000) (disch := (first | omega | (simp only [set_next, List.length_append, List.length_cons, List.length_nil, List.length_take, List.length_drop, List.length_map, List.length_set, List.length_replicate]; omega) | (simp only [set_next, ne_eq, reduceCtorEq, not_false_eq_true]))) only [e6, hVb, hfs, e4, go_sem, Nat.reduceLeDiff, Nat.reduceAdd, Nat.reduceSub, Nat.reduceMul, Nat.reduceLT, Int.reduceLT, Int.reduceLE, Int.reduceAdd, Int.reduceSub, Int.reduceMul, Int.reduceToNat, Int.reduceNeg, Int.reduceEq, Nat.reducePow, Int.reducePow, Nat.reduceEqDiff, decide_true, decide_false, reduceIte, reduceCtorEq, Int.reduceBEq, Int.reduceBNe, bne_self_eq_false, Int.cast_ofNat_Int, Bool.not_true, Bool.not_false, IntKind.bits, w_nat, w_lit, w_add, w_addl, w_ladd, w_sub, w_subl, w_lsub, w_mul, w_mull, w_lmul, t_div, t_divl, t_mod, t_modl, i_lt, i_ltl, i_llt, i_le, i_lel, i_lle, i_eq, i_eql, i_leq, Nat.zero_le, d_beq, d_bne, d_bytes, byte_at, Int.toNat_natCast, toNat_lit, decide_eq_true, decide_eq_false, if_pos, if_neg, slA_len, slA_idx, slA_cells, flat_slA, one_slA, cells_slA, map_mid, strV_is, hp_get1, hp_get2, hp_get3, hp_set1, hp_set2, hp_set3, hp_old, hp_sold, set_got, set_set, set_next, set_other, bytesL, bytes_all, List.length_map, aapp_nils, aapp_wr, List.flatMap_cons, List.flatMap_nil, Nat.mul_one]
              case' inr =>
                simp (maxSteps := 4000000) (disch := (first | omega | (simp only [set_next, List.length_append, List.length_cons, List.length_nil, List.length_take, List.length_drop, List.length_map, List.length_set, List.length_replicate]; omega) | (simp only [set_next, ne_eq, reduceCtorEq, not_false_eq_true]))) only [e6, hVb, hfs, e4, go_sem, Nat.reduceLeDiff, Nat.reduceAdd, Nat.reduceSub, Nat.reduceMul, Nat.reduceLT, Int.reduceLT, Int.reduceLE, Int.reduceAdd, Int.reduceSub, Int.reduceMul, Int.reduceToNat, Int.reduceNeg, Int.reduceEq, Nat.reducePow, Int.reducePow, Nat.reduceEqDiff, decide_true, decide_false, reduceIte, reduceCtorEq, Int.reduceBEq, Int.reduceBNe, bne_self_eq_false, Int.cast_ofNat_Int, Bool.not_true, Bool.not_false, IntKind.bits, w_nat, w_lit, w_add, w_addl, w_ladd, w_sub, w_subl, w_lsub, w_mul, w_mull, w_lmul, t_div, t_divl, t_mod, t_modl, i_lt, i_ltl, i_llt, i_le, i_lel, i_lle, i_eq, i_eql, i_leq, Nat.zero_le, d_beq, d_bne, d_bytes, byte_at, Int.toNat_natCast, toNat_lit, decide_eq_true, decide_eq_false, if_pos, if_neg, slA_len, slA_idx, slA_cells, flat_slA, one_slA, cells_slA, map_mid, strV_is, hp_get1, hp_get2, hp_get3, hp_set1, hp_set2, hp_set3, hp_old, hp_sold, set_got, set_set, set_next, set_other, bytesL, bytes_all, List.length_map, aapp_nils, aapp_wr, List.flatMap_cons, List.flatMap_nil, Nat.mul_one]
                rw [← hVb, ← hVi]
                refine Same_b (trm_ok (by omega) hbm) ho (by rw [hb, e7]) ?_
                rw [hVb, hVi]
                simp (maxSteps := 4000000) (disch := (first | omega | (simp only [set_next, List.length_append, List.length_cons, List.length_nil, List.length_take, List.length_drop, List.length_map, List.length_set, List.length_replicate]; omega) | (simp only [set_next, ne_eq, reduceCtorEq, not_false_eq_true]))) only [go_sem, Nat.reduceLeDiff, Nat.reduceAdd, Nat.reduceSub, Nat.reduceMul, Nat.reduceLT, Int.reduceLT, Int.reduceLE, Int.reduceAdd, Int.reduceSub, Int.reduceMul, Int.reduceToNat, Int.reduceNeg, Int.reduceEq, Nat.reducePow, Int.reducePow, Nat.reduceEqDiff, decide_true, decide_false, reduceIte, reduceCtorEq, Int.reduceBEq, Int.reduceBNe, bne_self_eq_false, Int.cast_ofNat_Int, Bool.not_true, Bool.not_false, IntKind.bits, w_nat, w_lit, w_add, w_addl, w_ladd, w_sub, w_subl, w_lsub, w_mul, w_mull, w_lmul, t_div, t_divl, t_mod, t_modl, i_lt, i_ltl, i_llt, i_le, i_lel, i_lle, i_eq, i_eql, i_leq, Nat.zero_le, d_beq, d_bne, d_bytes, byte_at, Int.toNat_natCast, toNat_lit, decide_eq_true, decide_eq_false, if_pos, if_neg, slA_len, slA_idx, slA_cells, flat_slA, one_slA, cells_slA, map_mid, strV_is, hp_get1, hp_get2, hp_get3, hp_set1, hp_set2, hp_set3, hp_old, hp_sold, set_got, set_set, set_next, set_other, bytesL, bytes_all, List.length_map, aapp_nils, aapp_wr, List.flatMap_cons, List.flatMap_nil, Nat.mul_one]
            all_goals
              rw [← hVi]
              refine Add_m (by omega) htm (by omega) (by omega) (fun o hoo => ?_)
              have hoM := trm_same hoo (changedS_m (p := p) (addF_m (n := 300) (nm := nm) (by omega)) (trm_strip htm))
              have hoO := trm_ok (by omega) hoM
              have hVo := Tr.V_is o
              have hkA := fun he => hkA o he hoo
              generalize changedS (addF nm) p t.strip = q at *
              rw [hVi]
              by_cases hg : q.2 = 0
              · obtain ⟨k1, k2, k3⟩ := hkA hg
                clear hkA
                have hlp : (kidP p nm).length ≤ 301 := by
                  unfold kidP
                  split
                  · rw [List.length_append]; omega
                  · rw [List.length_append, List.length_append, List.length_singleton]; omega
                have hl1 : p.length + 1 ≤ 9223372036854775807 := by omega
                have hl2 : (p ++ [47]).length + nm.length ≤ 9223372036854775807 := by rw [List.length_append, List.length_singleton]; omega
                have hl3 : p.length + nm.length ≤ 9223372036854775807 := by omega
                by_cases h47 : p = [47]
                case' pos =>
                  have hk : 47 :: nm = kidP p nm := by unfold kidP; rw [if_pos h47, h47]; rfl
                  simp (maxSteps := 4000000) (disch := (first | omega | (simp only [set_next, List.length_append, List.length_cons, List.length_nil, List.length_take, List.length_drop, List.length_map, List.length_set, List.length_replicate]; omega) | (simp only [set_next, ne_eq, reduceCtorEq, not_false_eq_true]))) only [hg, hVo, hl1, hl2, hl3, h47, go_sem, Nat.reduceLeDiff, Nat.reduceAdd, Nat.reduceSub, Nat.reduceMul, Nat.reduceLT, Int.reduceLT, Int.reduceLE, Int.reduceAdd, Int.reduceSub, Int.reduceMul, Int.reduceToNat, Int.reduceNeg, Int.reduceEq, Nat.reducePow, Int.reducePow, Nat.reduceEqDiff, decide_true, decide_false, reduceIte, reduceCtorEq, Int.reduceBEq, Int.reduceBNe, bne_self_eq_false, Int.cast_ofNat_Int, Bool.not_true, Bool.not_false, IntKind.bits, w_nat, w_lit, w_add, w_addl, w_ladd, w_sub, w_subl, w_lsub, w_mul, w_mull, w_lmul, t_div, t_divl, t_mod, t_modl, i_lt, i_ltl, i_llt, i_le, i_lel, i_lle, i_eq, i_eql, i_leq, Nat.zero_le, d_beq, d_bne, d_bytes, byte_at, Int.toNat_natCast, toNat_lit, decide_eq_true, decide_eq_false, if_pos, if_neg, slA_len, slA_idx, slA_cells, flat_slA, one_slA, cells_slA, map_mid, strV_is, hp_get1, hp_get2, hp_get3, hp_set1, hp_set2, hp_set3, hp_old, hp_sold, set_got, set_set, set_next, set_other, bytesL, bytes_all, List.length_map, aapp_nils, aapp_wr, List.flatMap_cons, List.flatMap_nil, Nat.mul_one]
                case' neg =>
                  have hk : p ++ [47] ++ nm = kidP p nm := by unfold kidP; rw [if_neg h47]
                  simp (maxSteps := 4000000) (disch := (first | omega | (simp only [set_next, List.length_append, List.length_cons, List.length_nil, List.length_take, List.length_drop, List.length_map, List.length_set, List.length_replicate]; omega) | (simp only [set_next, ne_eq, reduceCtorEq, not_false_eq_true]))) only [hg, hVo, hl1, hl2, hl3, h47, go_sem, Nat.reduceLeDiff, Nat.reduceAdd, Nat.reduceSub, Nat.reduceMul, Nat.reduceLT, Int.reduceLT, Int.reduceLE, Int.reduceAdd, Int.reduceSub, Int.reduceMul, Int.reduceToNat, Int.reduceNeg, Int.reduceEq, Nat.reducePow, Int.reducePow, Nat.reduceEqDiff, decide_true, decide_false, reduceIte, reduceCtorEq, Int.reduceBEq, Int.reduceBNe, bne_self_eq_false, Int.cast_ofNat_Int, Bool.not_true, Bool.not_false, IntKind.bits, w_nat, w_lit, w_add, w_addl, w_ladd, w_sub, w_subl, w_lsub, w_mul, w_mull, w_lmul, t_div, t_divl, t_mod, t_modl, i_lt, i_ltl, i_llt, i_le, i_lel, i_lle, i_eq, i_eql, i_leq, Nat.zero_le, d_beq, d_bne, d_bytes, byte_at, Int.toNat_natCast, toNat_lit, decide_eq_true, decide_eq_false, if_pos, if_neg, slA_len, slA_idx, slA_cells, flat_slA, one_slA, cells_slA, map_mid, strV_is, hp_get1, hp_get2, hp_get3, hp_set1, hp_set2, hp_set3, hp_old, hp_sold, set_got, set_set, set_next, set_other, bytesL, bytes_all, List.length_map, aapp_nils, aapp_wr, List.flatMap_cons, List.flatMap_nil, Nat.mul_one]
                all_goals
                  rw [hk]
                  clear hk hl1 hl2 hl3 h47
                  generalize kidP p nm = pp at *
                  rw [← hVo]
                  refine find_a hoO (by omega) ?_
                  rw [foundV_is]
                  generalize findT o pp = fz at *
                  rw [hVo]
                  simp (maxSteps := 4000000) (disch := (first | omega | (simp only [set_next, List.length_append, List.length_cons, List.length_nil, List.length_take, List.length_drop, List.length_map, List.length_set, List.length_replicate]; omega) | (simp only [set_next, ne_eq, reduceCtorEq, not_false_eq_true]))) only [go_sem, Nat.reduceLeDiff, Nat.reduceAdd, Nat.reduceSub, Nat.reduceMul, Nat.reduceLT, Int.reduceLT, Int.reduceLE, Int.reduceAdd, Int.reduceSub, Int.reduceMul, Int.reduceToNat, Int.reduceNeg, Int.reduceEq, Nat.reducePow, Int.reducePow, Nat.reduceEqDiff, decide_true, decide_false, reduceIte, reduceCtorEq, Int.reduceBEq, Int.reduceBNe, bne_self_eq_false, Int.cast_ofNat_Int, Bool.not_true, Bool.not_false, IntKind.bits, w_nat, w_lit, w_add, w_addl, w_ladd, w_sub, w_subl, w_lsub, w_mul, w_mull, w_lmul, t_div, t_divl, t_mod, t_modl, i_lt, i_ltl, i_llt, i_le, i_lel, i_lle, i_eq, i_eql, i_leq, Nat.zero_le, d_beq, d_bne, d_bytes, byte_at, Int.toNat_natCast, toNat_lit, decide_eq_true, decide_eq_false, if_pos, if_neg, slA_len, slA_idx, slA_cells, flat_slA, one_slA, cells_slA, map_mid, strV_is, hp_get1, hp_get2, hp_get3, hp_set1, hp_set2, hp_set3, hp_old, hp_sold, set_got, set_set, set_next, set_other, bytesL, bytes_all, List.length_map, aapp_nils, aapp_wr, List.flatMap_cons, List.flatMap_nil, Nat.mul_one]
                  rw [← hVo]
                  refine Drop_m (by omega) hoM (by omega) (fun c hc => ?_)
                  have hcm := trm_same hc (dropS_m (trm_strip hoM))
                  rw [k3] at hc
                  rw [k2]
                  have hVc := Tr.V_is c
                  rw [hVo]
                  simp (maxSteps := 4000000) (disch := (first | omega | (simp only [set_next, List.length_append, List.length_cons, List.length_nil, List.length_take, List.length_drop, List.length_map, List.length_set, List.length_replicate]; omega) | (simp only [set_next, ne_eq, reduceCtorEq, not_false_eq_true]))) only [hVc, k1, go_sem, Nat.reduceLeDiff, Nat.reduceAdd, Nat.reduceSub, Nat.reduceMul, Nat.reduceLT, Int.reduceLT, Int.reduceLE, Int.reduceAdd, Int.reduceSub, Int.reduceMul, Int.reduceToNat, Int.reduceNeg, Int.reduceEq, Nat.reducePow, Int.reducePow, Nat.reduceEqDiff, decide_true, decide_false, reduceIte, reduceCtorEq, Int.reduceBEq, Int.reduceBNe, bne_self_eq_false, Int.cast_ofNat_Int, Bool.not_true, Bool.not_false, IntKind.bits, w_nat, w_lit, w_add, w_addl, w_ladd, w_sub, w_subl, w_lsub, w_mul, w_mull, w_lmul, t_div, t_divl, t_mod, t_modl, i_lt, i_ltl, i_llt, i_le, i_lel, i_lle, i_eq, i_eql, i_leq, Nat.zero_le, d_beq, d_bne, d_bytes, byte_at, Int.toNat_natCast, toNat_lit, decide_eq_true, decide_eq_false, if_pos, if_neg, slA_len, slA_idx, slA_cells, flat_slA, one_slA, cells_slA, map_mid, strV_is, hp_get1, hp_get2, hp_get3, hp_set1, hp_set2, hp_set3, hp_old, hp_sold, set_got, set_set, set_next, set_other, bytesL, bytes_all, List.length_map, aapp_nils, aapp_wr, List.flatMap_cons, List.flatMap_nil, Nat.mul_one]
                  rw [← hVc, ← hVi]
                  refine Same_b (trm_ok (by omega) hcm) ho hc ?_
                  rw [hVc, hVi]
                  simp (maxSteps := 4000000) (disch := (first | omega | (simp only [set_next, List.length_append, List.length_cons, List.length_nil, List.length_take, List.length_drop, List.length_map, List.length_set, List.length_replicate]; omega) | (simp only [set_next, ne_eq, reduceCtorEq, not_false_eq_true]))) only [go_sem, Nat.reduceLeDiff, Nat.reduceAdd, Nat.reduceSub, Nat.reduceMul, Nat.reduceLT, Int.reduceLT, Int.reduceLE, Int.reduceAdd, Int.reduceSub, Int.reduceMul, Int.reduceToNat, Int.reduceNeg, Int.reduceEq, Nat.reducePow, Int.reducePow, Nat.reduceEqDiff, decide_true, decide_false, reduceIte, reduceCtorEq, Int.reduceBEq, Int.reduceBNe, bne_self_eq_false, Int.cast_ofNat_Int, Bool.not_true, Bool.not_false, IntKind.bits, w_nat, w_lit, w_add, w_addl, w_ladd, w_sub, w_subl, w_lsub, w_mul, w_mull, w_lmul, t_div, t_divl, t_mod, t_modl, i_lt, i_ltl, i_llt, i_le, i_lel, i_lle, i_eq, i_eql, i_leq, Nat.zero_le, d_beq, d_bne, d_bytes, byte_at, Int.toNat_natCast, toNat_lit, decide_eq_true, decide_eq_false, if_pos, if_neg, slA_len, slA_idx, slA_cells, flat_slA, one_slA, cells_slA, map_mid, strV_is, hp_get1, hp_get2, hp_get3, hp_set1, hp_set2, hp_set3, hp_old, hp_sold, set_got, set_set, set_next, set_other, bytesL, bytes_all, List.length_map, aapp_nils, aapp_wr, List.flatMap_cons, List.flatMap_nil, Nat.mul_one]
                  refine awake17_a ?_
                  simp (maxSteps := 4000000) (disch := (first | omega | (simp only [set_next, List.length_append, List.length_cons, List.length_nil, List.length_take, List.length_drop, List.length_map, List.length_set, List.length_replicate]; omega) | (simp only [set_next, ne_eq, reduceCtorEq, not_false_eq_true]))) only [go_sem, Nat.reduceLeDiff, Nat.reduceAdd, Nat.reduceSub, Nat.reduceMul, Nat.reduceLT, Int.reduceLT, Int.reduceLE, Int.reduceAdd, Int.reduceSub, Int.reduceMul, Int.reduceToNat, Int.reduceNeg, Int.reduceEq, Nat.reducePow, Int.reducePow, Nat.reduceEqDiff, decide_true, decide_false, reduceIte, reduceCtorEq, Int.reduceBEq, Int.reduceBNe, bne_self_eq_false, Int.cast_ofNat_Int, Bool.not_true, Bool.not_false, IntKind.bits, w_nat, w_lit, w_add, w_addl, w_ladd, w_sub, w_subl, w_lsub, w_mul, w_mull, w_lmul, t_div, t_divl, t_mod, t_modl, i_lt, i_ltl, i_llt, i_le, i_lel, i_lle, i_eq, i_eql, i_leq, Nat.zero_le, d_beq, d_bne, d_bytes, byte_at, Int.toNat_natCast, toNat_lit, decide_eq_true, decide_eq_false, if_pos, if_neg, slA_len, slA_idx, slA_cells, flat_slA, one_slA, cells_slA, map_mid, strV_is, hp_get1, hp_get2, hp_get3, hp_set1, hp_set2, hp_set3, hp_old, hp_sold, set_got, set_set, set_next, set_other, bytesL, bytes_all, List.length_map, aapp_nils, aapp_wr, List.flatMap_cons, List.flatMap_nil, Nat.mul_one]
                  exact aret_plain (K := fun y _ => y = .bool true) hs (.bool _) rfl
              · by_cases h8 : r.2 = 8
                · have hfn := hE2 h8
                  first
                  | (exfalso; omega)
                  | simp (maxSteps := 4000000) (disch := (first | omega | (simp only [set_next, List.length_append, List.length_cons, List.length_nil, List.length_take, List.length_drop, List.length_map, List.length_set, List.length_replicate]; omega) | (simp only [set_next, ne_eq, reduceCtorEq, not_false_eq_true]))) only [hg, hVo, h8, hfn, go_sem, Nat.reduceLeDiff, Nat.reduceAdd, Nat.reduceSub, Nat.reduceMul, Nat.reduceLT, Int.reduceLT, Int.reduceLE, Int.reduceAdd, Int.reduceSub, Int.reduceMul, Int.reduceToNat, Int.reduceNeg, Int.reduceEq, Nat.reducePow, Int.reducePow, Nat.reduceEqDiff, decide_true, decide_false, reduceIte, reduceCtorEq, Int.reduceBEq, Int.reduceBNe, bne_self_eq_false, Int.cast_ofNat_Int, Bool.not_true, Bool.not_false, IntKind.bits, w_nat, w_lit, w_add, w_addl, w_ladd, w_sub, w_subl, w_lsub, w_mul, w_mull, w_lmul, t_div, t_divl, t_mod, t_modl, i_lt, i_ltl, i_llt, i_le, i_lel, i_lle, i_eq, i_eql, i_leq, Nat.zero_le, d_beq, d_bne, d_bytes, byte_at, Int.toNat_natCast, toNat_lit, decide_eq_true, decide_eq_false, if_pos, if_neg, slA_len, slA_idx, slA_cells, flat_slA, one_slA, cells_slA, map_mid, strV_is, hp_get1, hp_get2, hp_get3, hp_set1, hp_set2, hp_set3, hp_old, hp_sold, set_got, set_set, set_next, set_other, bytesL, bytes_all, List.length_map, aapp_nils, aapp_wr, List.flatMap_cons, List.flatMap_nil, Nat.mul_one]
                    refine awake17_a ?_
                    simp (maxSteps := 4000000) (disch := (first | omega | (simp only [set_next, List.length_append, List.length_cons, List.length_nil, List.length_take, List.length_drop, List.length_map, List.length_set, List.length_replicate]; omega) | (simp only [set_next, ne_eq, reduceCtorEq, not_false_eq_true]))) only [go_sem, Nat.reduceLeDiff, Nat.reduceAdd, Nat.reduceSub, Nat.reduceMul, Nat.reduceLT, Int.reduceLT, Int.reduceLE, Int.reduceAdd, Int.reduceSub, Int.reduceMul, Int.reduceToNat, Int.reduceNeg, Int.reduceEq, Nat.reducePow, Int.reducePow, Nat.reduceEqDiff, decide_true, decide_false, reduceIte, reduceCtorEq, Int.reduceBEq, Int.reduceBNe, bne_self_eq_false, Int.cast_ofNat_Int, Bool.not_true, Bool.not_false, IntKind.bits, w_nat, w_lit, w_add, w_addl, w_ladd, w_sub, w_subl, w_lsub, w_mul, w_mull, w_lmul, t_div, t_divl, t_mod, t_modl, i_lt, i_ltl, i_llt, i_le, i_lel, i_lle, i_eq, i_eql, i_leq, Nat.zero_le, d_beq, d_bne, d_bytes, byte_at, Int.toNat_natCast, toNat_lit, decide_eq_true, decide_eq_false, if_pos, if_neg, slA_len, slA_idx, slA_cells, flat_slA, one_slA, cells_slA, map_mid, strV_is, hp_get1, hp_get2, hp_get3, hp_set1, hp_set2, hp_set3, hp_old, hp_sold, set_got, set_set, set_next, set_other, bytesL, bytes_all, List.length_map, aapp_nils, aapp_wr, List.flatMap_cons, List.flatMap_nil, Nat.mul_one]
                    exact aret_plain (K := fun y _ => y = .bool true) hs (.bool _) rfl
                · simp (maxSteps := 4000000) (disch := (first | omega | (simp only [set_next, List.length_append, List.length_cons, List.length_nil, List.length_take, List.length_drop, List.length_map, List.length_set, List.length_replicate]; omega) | (simp only [set_next, ne_eq, reduceCtorEq, not_false_eq_true]))) only [hg, hVo, h8, go_sem, Nat.reduceLeDiff, Nat.reduceAdd, Nat.reduceSub, Nat.reduceMul, Nat.reduceLT, Int.reduceLT, Int.reduceLE, Int.reduceAdd, Int.reduceSub, Int.reduceMul, Int.reduceToNat, Int.reduceNeg, Int.reduceEq, Nat.reducePow, Int.reducePow, Nat.reduceEqDiff, decide_true, decide_false, reduceIte, reduceCtorEq, Int.reduceBEq, Int.reduceBNe, bne_self_eq_false, Int.cast_ofNat_Int, Bool.not_true, Bool.not_false, IntKind.bits, w_nat, w_lit, w_add, w_addl, w_ladd, w_sub, w_subl, w_lsub, w_mul, w_mull, w_lmul, t_div, t_divl, t_mod, t_modl, i_lt, i_ltl, i_llt, i_le, i_lel, i_lle, i_eq, i_eql, i_leq, Nat.zero_le, d_beq, d_bne, d_bytes, byte_at, Int.toNat_natCast, toNat_lit, decide_eq_true, decide_eq_false, if_pos, if_neg, slA_len, slA_idx, slA_cells, flat_slA, one_slA, cells_slA, map_mid, strV_is, hp_get1, hp_get2, hp_get3, hp_set1, hp_set2, hp_set3, hp_old, hp_sold, set_got, set_set, set_next, set_other, bytesL, bytes_all, List.length_map, aapp_nils, aapp_wr, List.flatMap_cons, List.flatMap_nil, Nat.mul_one]
                  refine awake17_a ?_
                  simp (maxSteps := 4000000) (disch := (first | omega | (simp only [set_next, List.length_append, List.length_cons, List.length_nil, List.length_take, List.length_drop, List.length_map, List.length_set, List.length_replicate]; omega) | (simp only [set_next, ne_eq, reduceCtorEq, not_false_eq_true]))) only [go_sem, Nat.reduceLeDiff, Nat.reduceAdd, Nat.reduceSub, Nat.reduceMul, Nat.reduceLT, Int.reduceLT, Int.reduceLE, Int.reduceAdd, Int.reduceSub, Int.reduceMul, Int.reduceToNat, Int.reduceNeg, Int.reduceEq, Nat.reducePow, Int.reducePow, Nat.reduceEqDiff, decide_true, decide_false, reduceIte, reduceCtorEq, Int.reduceBEq, Int.reduceBNe, bne_self_eq_false, Int.cast_ofNat_Int, Bool.not_true, Bool.not_false, IntKind.bits, w_nat, w_lit, w_add, w_addl, w_ladd, w_sub, w_subl, w_lsub, w_mul, w_mull, w_lmul, t_div, t_divl, t_mod, t_modl, i_lt, i_ltl, i_llt, i_le, i_lel, i_lle, i_eq, i_eql, i_leq, Nat.zero_le, d_beq, d_bne, d_bytes, byte_at, Int.toNat_natCast, toNat_lit, decide_eq_true, decide_eq_false, if_pos, if_neg, slA_len, slA_idx, slA_cells, flat_slA, one_slA, cells_slA, map_mid, strV_is, hp_get1, hp_get2, hp_get3, hp_set1, hp_set2, hp_set3, hp_old, hp_sold, set_got, set_set, set_next, set_other, bytesL, bytes_all, List.length_map, aapp_nils, aapp_wr, List.flatMap_cons, List.flatMap_nil, Nat.mul_one]
                  exact aret_plain (K := fun y _ => y = .bool true) hs (.bool _) rfl
          · simp (maxSteps := 4000000) (disch := (first | omega | (simp only [set_next, List.length_append, List.length_cons, List.length_nil, List.length_take, List.length_drop, List.length_map, List.length_set, List.length_replicate]; omega) | (simp only [set_next, ne_eq, reduceCtorEq, not_false_eq_true]))) only [h1, h2, h3, go_sem, Nat.reduceLeDiff, Nat.reduceAdd, Nat.reduceSub, Nat.reduceMul, Nat.reduceLT, Int.reduceLT, Int.reduceLE, Int.reduceAdd, Int.reduceSub, Int.reduceMul, Int.reduceToNat, Int.reduceNeg, Int.reduceEq, Nat.reducePow, Int.reducePow, Nat.reduceEqDiff, decide_true, decide_false, reduceIte, reduceCtorEq, Int.reduceBEq, Int.reduceBNe, bne_self_eq_false, Int.cast_ofNat_Int, Bool.not_true, Bool.not_false, IntKind.bits, w_nat, w_lit, w_add, w_addl, w_ladd, w_sub, w_subl, w_lsub, w_mul, w_mull, w_lmul, t_div, t_divl, t_mod, t_modl, i_lt, i_ltl, i_llt, i_le, i_lel, i_lle, i_eq, i_eql, i_leq, Nat.zero_le, d_beq, d_bne, d_bytes, byte_at, Int.toNat_natCast, toNat_lit, decide_eq_true, decide_eq_false, if_pos, if_neg, slA_len, slA_idx, slA_cells, flat_slA, one_slA, cells_slA, map_mid, strV_is, hp_get1, hp_get2, hp_get3, hp_set1, hp_set2, hp_set3, hp_old, hp_sold, set_got, set_set, set_next, set_other, bytesL, bytes_all, List.length_map, aapp_nils, aapp_wr, List.flatMap_cons, List.flatMap_nil, Nat.mul_one]
            refine awake17_a ?_
            simp (maxSteps := 4000000) (disch := (first | omega | (simp only [set_next, List.length_append, List.length_cons, List.length_nil, List.length_take, List.length_drop, List.length_map, List.length_set, List.length_replicate]; omega) | (simp only [set_next, ne_eq, reduceCtorEq, not_false_eq_true]))) only [go_sem, Nat.reduceLeDiff, Nat.reduceAdd, Nat.reduceSub, Nat.reduceMul, Nat.reduceLT, Int.reduceLT, Int.reduceLE, Int.reduceAdd, Int.reduceSub, Int.reduceMul, Int.reduceToNat, Int.reduceNeg, Int.reduceEq, Nat.reducePow, Int.reducePow, Nat.reduceEqDiff, decide_true, decide_false, reduceIte, reduceCtorEq, Int.reduceBEq, Int.reduceBNe, bne_self_eq_false, Int.cast_ofNat_Int, Bool.not_true, Bool.not_false, IntKind.bits, w_nat, w_lit, w_add, w_addl, w_ladd, w_sub, w_subl, w_lsub, w_mul, w_mull, w_lmul, t_div, t_divl, t_mod, t_modl, i_lt, i_ltl, i_llt, i_le, i_lel, i_lle, i_eq, i_eql, i_leq, Nat.zero_le, d_beq, d_bne, d_bytes, byte_at, Int.toNat_natCast, toNat_lit, decide_eq_true, decide_eq_false, if_pos, if_neg, slA_len, slA_idx, slA_cells, flat_slA, one_slA, cells_slA, map_mid, strV_is, hp_get1, hp_get2, hp_get3, hp_set1, hp_set2, hp_set3, hp_old, hp_sold, set_got, set_set, set_next, set_other, bytesL, bytes_all, List.length_map, aapp_nils, aapp_wr, List.flatMap_cons, List.flatMap_nil, Nat.mul_one]
            exact aret_plain (K := fun y _ => y = .bool true) hs (.bool _) rfl
        · simp (maxSteps := 4000000) (disch := (first | omega | (simp only [set_next, List.length_append, List.length_cons, List.length_nil, List.length_take, List.length_drop, List.length_map, List.length_set, List.length_replicate]; omega) | (simp only [set_next, ne_eq, reduceCtorEq, not_false_eq_true]))) only [h1, h2, go_sem, Nat.reduceLeDiff, Nat.reduceAdd, Nat.reduceSub, Nat.reduceMul, Nat.reduceLT, Int.reduceLT, Int.reduceLE, Int.reduceAdd, Int.reduceSub, Int.reduceMul, Int.reduceToNat, Int.reduceNeg, Int.reduceEq, Nat.reducePow, Int.reducePow, Nat.reduceEqDiff, decide_true, decide_false, reduceIte, reduceCtorEq, Int.reduceBEq, Int.reduceBNe, bne_self_eq_false, Int.cast_ofNat_Int, Bool.not_true, Bool.not_false, IntKind.bits, w_nat, w_lit, w_add, w_addl, w_ladd, w_sub, w_subl, w_lsub, w_mul, w_mull, w_lmul, t_div, t_divl, t_mod, t_modl, i_lt, i_ltl, i_llt, i_le, i_lel, i_lle, i_eq, i_eql, i_leq, Nat.zero_le, d_beq, d_bne, d_bytes, byte_at, Int.toNat_natCast, toNat_lit, decide_eq_true, decide_eq_false, if_pos, if_neg, slA_len, slA_idx, slA_cells, flat_slA, one_slA, cells_slA, map_mid, strV_is, hp_get1, hp_get2, hp_get3, hp_set1, hp_set2, hp_set3, hp_old, hp_sold, set_got, set_set, set_next, set_other, bytesL, bytes_all, List.length_map, aapp_nils, aapp_wr, List.flatMap_cons, List.flatMap_nil, Nat.mul_one]
          refine awake17_a ?_
          simp (maxSteps := 4000000) (disch := (first | omega | (simp only [set_next, List.length_append, List.length_cons, List.length_nil, List.length_take, List.length_drop, List.length_map, List.length_set, List.length_replicate]; omega) | (simp only [set_next, ne_eq, reduceCtorEq, not_false_eq_true]))) only [go_sem, Nat.reduceLeDiff, Nat.reduceAdd, Nat.reduceSub, Nat.reduceMul, Nat.reduceLT, Int.reduceLT, Int.reduceLE, Int.reduceAdd, Int.reduceSub, Int.reduceMul, Int.reduceToNat, Int.reduceNeg, Int.reduceEq, Nat.reducePow, Int.reducePow, Nat.reduceEqDiff, decide_true, decide_false, reduceIte, reduceCtorEq, Int.reduceBEq, Int.reduceBNe, bne_self_eq_false, Int.cast_ofNat_Int, Bool.not_true, Bool.not_false, IntKind.bits, w_nat, w_lit, w_add, w_addl, w_ladd, w_sub, w_subl, w_lsub, w_mul, w_mull, w_lmul, t_div, t_divl, t_mod, t_modl, i_lt, i_ltl, i_llt, i_le, i_lel, i_lle, i_eq, i_eql, i_leq, Nat.zero_le, d_beq, d_bne, d_bytes, byte_at, Int.toNat_natCast, toNat_lit, decide_eq_true, decide_eq_false, if_pos, if_neg, slA_len, slA_idx, slA_cells, flat_slA, one_slA, cells_slA, map_mid, strV_is, hp_get1, hp_get2, hp_get3, hp_set1, hp_set2, hp_set3, hp_old, hp_sold, set_got, set_set, set_next, set_other, bytesL, bytes_all, List.length_map, aapp_nils, aapp_wr, List.flatMap_cons, List.flatMap_nil, Nat.mul_one]
          exact aret_plain (K := fun y _ => y = .bool true) hs (.bool _) rfl
      · simp (maxSteps := 4000000) (disch := (first | omega | (simp only [set_next, List.length_append, List.length_cons, List.length_nil, List.length_take, List.length_drop, List.length_map, List.length_set, List.length_replicate]; omega) | (simp only [set_next, ne_eq, reduceCtorEq, not_false_eq_true]))) only [h1, go_sem, Nat.reduceLeDiff, Nat.reduceAdd, Nat.reduceSub, Nat.reduceMul, Nat.reduceLT, Int.reduceLT, Int.reduceLE, Int.reduceAdd, Int.reduceSub, Int.reduceMul, Int.reduceToNat, Int.reduceNeg, Int.reduceEq, Nat.reducePow, Int.reducePow, Nat.reduceEqDiff, decide_true, decide_false, reduceIte, reduceCtorEq, Int.reduceBEq, Int.reduceBNe, bne_self_eq_false, Int.cast_ofNat_Int, Bool.not_true, Bool.not_false, IntKind.bits, w_nat, w_lit, w_add, w_addl, w_ladd, w_sub, w_subl, w_lsub, w_mul, w_mull, w_lmul, t_div, t_divl, t_mod, t_modl, i_lt, i_ltl, i_llt, i_le, i_lel, i_lle, i_eq, i_eql, i_leq, Nat.zero_le, d_beq, d_bne, d_bytes, byte_at, Int.toNat_natCast, toNat_lit, decide_eq_true, decide_eq_false, if_pos, if_neg, slA_len, slA_idx, slA_cells, flat_slA, one_slA, cells_slA, map_mid, strV_is, hp_get1, hp_get2, hp_get3, hp_set1, hp_set2, hp_set3, hp_old, hp_sold, set_got, set_set, set_next, set_other, bytesL, bytes_all, List.length_map, aapp_nils, aapp_wr, List.flatMap_cons, List.flatMap_nil, Nat.mul_one]
        refine awake17_a ?_
        simp (maxSteps := 4000000) (disch := (first | omega | (simp only [set_next, List.length_append, List.length_cons, List.length_nil, List.length_take, List.length_drop, List.length_map, List.length_set, List.length_replicate]; omega) | (simp only [set_next, ne_eq, reduceCtorEq, not_false_eq_true]))) only [go_sem, Nat.reduceLeDiff, Nat.reduceAdd, Nat.reduceSub, Nat.reduceMul, Nat.reduceLT, Int.reduceLT, Int.reduceLE, Int.reduceAdd, Int.reduceSub, Int.reduceMul, Int.reduceToNat, Int.reduceNeg, Int.reduceEq, Nat.reducePow, Int.reducePow, Nat.reduceEqDiff, decide_true, decide_false, reduceIte, reduceCtorEq, Int.reduceBEq, Int.reduceBNe, bne_self_eq_false, Int.cast_ofNat_Int, Bool.not_true, Bool.not_false, IntKind.bits, w_nat, w_lit, w_add, w_addl, w_ladd, w_sub, w_subl, w_lsub, w_mul, w_mull, w_lmul, t_div, t_divl, t_mod, t_modl, i_lt, i_ltl, i_llt, i_le, i_lel, i_lle, i_eq, i_eql, i_leq, Nat.zero_le, d_beq, d_bne, d_bytes, byte_at, Int.toNat_natCast, toNat_lit, decide_eq_true, decide_eq_false, if_pos, if_neg, slA_len, slA_idx, slA_cells, flat_slA, one_slA, cells_slA, map_mid, strV_is, hp_get1, hp_get2, hp_get3, hp_set1, hp_set2, hp_set3, hp_old, hp_sold, set_got, set_set, set_next, set_other, bytesL, bytes_all, List.length_map, aapp_nils, aapp_wr, List.flatMap_cons, List.flatMap_nil, Nat.mul_one]
        exact aret_plain (K := fun y _ => y = .bool true) hs (.bool _) rfl
end Go.Proofs.YtdknpnmdjjmapaaDoor.AL
