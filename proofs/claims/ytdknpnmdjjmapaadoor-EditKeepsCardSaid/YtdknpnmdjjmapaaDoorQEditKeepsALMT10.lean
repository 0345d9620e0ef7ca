/- Trees in memory: a kid added. -/
import Derived.Test.YtdknpnmdjjmapaaDoorQEditKeepsALDStrs
import Derived.Test.YtdknpnmdjjmapaaDoorQEditKeepsALA3
import Derived.Test.YtdknpnmdjjmapaaDoorProg
import Derived.KernelRfl
import Derived.Test.YtdknpnmdjjmapaaDoorQEditKeepsALA4
import Derived.Test.YtdknpnmdjjmapaaDoorQEditKeepsALPath3
import Derived.Shelf.Strings.Builder1
import Derived.Shelf.Lay
import Derived.Test.YtdknpnmdjjmapaaDoorQEditKeepsALTree1
set_option linter.unusedSimpArgs false
set_option linter.unusedVariables false
set_option maxRecDepth 100000
set_option maxHeartbeats 16000000
namespace Go.Proofs.YtdknpnmdjjmapaaDoor.AL
open Go Go.Proofs
attribute [local go_sem] go_seq go_skip go_region go_regionN go_fregion rgF_some go_cond go_block go_exit go_ret nxt_nil nxt_code nxt_blk nxt_cut leave_nil leave_code leave_cut leave_blk rtn_nil rtn_code rtn_blk rtn_cut cnd_t cnd_f rgn_nil rgY_some rgY_none rgH_some rgP_some retTo_is rgV_func grd_und grd_tt grd_ff grd_tf grd_ft rgn_q rgn_alloc rgn_box rgn_store rgn_lit rgn_litw litCells_nil litCells_cons rgn_app rgn_copy rgn_mk rgn_s2b rgn_call rgn_callv rgn_stop rgn_slice3 aslice3 rgn_slice3l aslice3l rgn_appz rgn_clear rgn_range rgn_next arange acap rgn_put rgn_mkmap rgn_lookup rgn_mapup alookup_nilm alookup_map amapup_map afound_ok afound_no rgn_c rgn_cv qclV_func aloadr rgn_guard post_ret post_normal retY_some ares aresL ares1 AX.ev aput List.getD_cons_zero List.getD_cons_succ List.set_cons_zero List.set_cons_succ List.map_cons List.map_nil aq abin aint astr abeq aconv asame aextract alenS alenL_nils alenL_emp alenL_imm alenL_wr alenL_wc aun apart aload afieldAddr afield aidxSl_wr aidxSl_wc aidxSl_imm aidxPt aidxStr aidxArr abound asliceStr asliceSl asliceArr abest anonil afill astore acells_nils acells_emp acells_imm acells_wr acells_wc acells_str acopy litAll amk as2b anil nilOf aseq aeqs aeqv fits fit1 hp_next hp_push hp_get hp_set List.length_cons List.length_nil List.getElem?_cons_zero List.getElem?_cons_succ List.cons_append List.nil_append List.append_nil List.take_succ_cons List.take_zero List.drop_succ_cons List.drop_zero List.all_cons List.all_nil Option.map_some Option.some.injEq Bool.and_true Bool.true_and Bool.false_eq_true if_true if_false ite_true ite_false Bool.and_self true_and and_true and_self Nat.zero_add Nat.le_refl Int.toNat_natCast beq_self_eq_true eq_self tops_zero tops_succ Int.natCast_nonneg List.take_nil List.drop_nil Option.map_none flat_bool one_bool cells_bool flat_int one_int cells_int flat_str one_str cells_str flat_nilp one_nilp cells_nilp flat_ptr one_ptr cells_ptr flat_nils one_nils cells_nils flat_imm one_imm cells_imm flat_wr one_wr cells_wr flat_wc one_wc cells_wc flat_func one_func cells_func flat_nilf one_nilf cells_nilf flat_map one_map cells_map flat_nilm one_nilm cells_nilm flat_iface one_iface cells_iface flat_nili one_nili cells_nili flat_rd one_rd cells_rd flat_emp one_emp cells_emp flat_byteV one_byteV cells_byteV flat_agg cells_agg one_agg B_size B_list B_ext B_toList B_app List.take_length Int.le_refl
def hasK (nm : List UInt8) (ks : List Tr) : Bool := ks.any (fun k => decide (k.name = nm))
def mayK (nm : List UInt8) : Bool := mayL nm && !(cut1 47 nm).2.2
def addF (nm : List UInt8) (t : Tr) : Tr × Int := if mayK nm = true then (if hasK nm t.kids = true then (t, 12) else (.mk t.name 0 t.props 0 (t.kids ++ [.mk nm 0 [] 0 []]), 0)) else (t, 1)
section
variable {H : AHeap} {K : AV → AHeap → Prop}
theorem kidM1_a {nid : Nat} {x nm : List UInt8} {a b : AV} (hg : H.get nid = some (.row 9 0 [.str (B nm)])) (ha : a.flat = true ∧ a.cells = [a] ∧ a.one = true) (hb : b.flat = true ∧ b.cells = [b] ∧ b.one = true) (h : K (.bool (decide (x = nm))) H) :
    (ACalls Tryd.prog) 58 [.agg [.str (B x), a, b], .ptr nid 0 0] H K := by
  refine acalls_go mo t58 (fun hs hu => ?_)
  have hlt := H.lt hg
  obtain ⟨a1, a2, a3⟩ := ha
  obtain ⟨b1, b2, b3⟩ := hb
  simp only [c58, go_sem, Nat.reduceLeDiff, Nat.reduceAdd, Nat.reduceSub, Nat.reduceMul, Nat.reduceLT, Int.reduceLT, Int.reduceLE, Int.reduceAdd, Int.reduceSub, Int.reduceMul, Int.reduceToNat, Int.reduceNeg, Int.reduceEq, Nat.reducePow, Int.reducePow, Nat.reduceEqDiff, decide_true, decide_false, reduceIte, reduceCtorEq, Int.reduceBEq, Int.reduceBNe, bne_self_eq_false, Int.cast_ofNat_Int, Bool.not_true, Bool.not_false, IntKind.bits]
  refine stp (And.intro a1 (And.intro a2 (And.intro a3 (And.intro b1 (And.intro b2 (And.intro b3 hg)))))) ?_
  exact aret_u hs (h)
theorem kidM_a {name nm : List UInt8} {vp vk : AV} {ps : List (List UInt8 × List UInt8)} {css : List (List AV)} {ks : List Tr} {fps : List (List Nat)} (m1 : SlAt 0 H 62 2 vp (ps.map propV)) (m2 : SlAt 0 H 25 3 vk (css.map AV.agg)) (m3 : css.length = ks.length) (m5 : ∀ j, j < ks.length → MT H (css.getD j []) (ks.getD j tr0) (fps.getD j [])) (hkl : ks.length ≤ 1000000)
    (h : ∀ x a b, a.flat = true ∧ a.cells = [a] ∧ a.one = true → b.flat = true ∧ b.cells = [b] ∧ b.one = true → a.under H.next → b.under H.next → K (.tup [.agg [.str (B x), a, b], .bool (hasK nm ks)]) H) :
    (ACalls Tryd.prog) 38 [.agg [.str (B name), vp, vk], .str (B nm)] H K := by
  refine acalls_go mo t38 (fun hs hu => ?_)
  obtain ⟨p1, p2, p3, p4⟩ := slat_one2 m1
  obtain ⟨q1, q2, q3, q4⟩ := slat_one2 m2
  have hlc := css_len m3 m5
  simp only [c38, go_sem, Nat.reduceLeDiff, Nat.reduceAdd, Nat.reduceSub, Nat.reduceMul, Nat.reduceLT, Int.reduceLT, Int.reduceLE, Int.reduceAdd, Int.reduceSub, Int.reduceMul, Int.reduceToNat, Int.reduceNeg, Int.reduceEq, Nat.reducePow, Int.reducePow, Nat.reduceEqDiff, decide_true, decide_false, reduceIte, reduceCtorEq, Int.reduceBEq, Int.reduceBNe, bne_self_eq_false, Int.cast_ofNat_Int, Bool.not_true, Bool.not_false, IntKind.bits]
  have hmt : ∀ j, j < ks.length → MT (hp H [.row 25 0 [.str (B name), vp, vk], .row 9 0 [.str (B nm)], .row 25 0 [.str (B []), .nils, .nils]]) (css.getD j []) (ks.getD j tr0) (fps.getD j []) := fun j hj => mt_same (m5 j hj) (fun x hx => hp_old (mt_lt (m5 j hj) x hx))
  refine nodeIx_a (p := fun j => decide ((ks.getD j tr0).name = nm)) (slat_hp m2 _) hlc (by omega) (fun j hj K hk => ?_) (fun hno => ?_) (fun i hi hpi hbef => ?_)
  · obtain ⟨a, b, e, ⟨a1, a2, a3, _⟩, b1, b2, b3, _⟩ := mt_cs (hmt j (by omega))
    rw [e]
    exact kidM1_a (hp_get _ _ 1) ⟨a1, a2, a3⟩ ⟨b1, b2, b3⟩ hk
  · have hz : hasK nm ks = false := by
      unfold hasK
      rw [List.any_eq_false]
      intro k hk
      obtain ⟨j, hj, rfl⟩ := List.getElem_of_mem hk
      have := of_decide_eq_false (hno j (by omega))
      rw [List.getD_eq_getElem?_getD, List.getElem?_eq_getElem hj] at this
      simpa using this
    have hx := h [] .nils .nils ⟨rfl, rfl, rfl⟩ ⟨rfl, rfl, rfl⟩ .nils .nils
    rw [hz] at hx
    refine stp0 ?_
    exact aret_plain hs (by simp only [u_top, u_bool, u_int, u_str, u_nilp, u_nils, u_nilf, u_nilm, u_nili, u_emp, u_byteV, u_ptr, u_wr, u_wc, u_agg, u_tup, u_rd, u_imm, u_func, u_nil, u_cons, u_app, uc_nil, uc_cons, uc_app, u_bytes, uc_bytes, u_ints, uc_ints, cells_bool, cells_int, cells_str, cells_agg, cells_ptr, cells_nils, cells_imm, cells_wr, cells_wc, cells_nilp, cells_nilf, cells_nilm, cells_rd, cells_emp, cells_byteV, cells_func, and_self, and_true, true_and, u_slA, uc_strs, cells_slA, strV_is]) hx
  · have hik : i < ks.length := by omega
    have hz : hasK nm ks = true := by
      unfold hasK
      rw [List.any_eq_true]
      exact ⟨_, tr_mem hik, hpi⟩
    obtain ⟨a, b, e, ⟨a1, a2, a3, a4⟩, b1, b2, b3, b4⟩ := mt_cs (m5 i hik)
    have hx := h (ks.getD i tr0).name a b ⟨a1, a2, a3⟩ ⟨b1, b2, b3⟩ a4 b4
    rw [hz] at hx
    rcases m2 with ⟨_, he⟩ | ⟨idk, genk, rfl, hidk, hgk⟩
    · have hl0 : css = [] := by simpa using he
      subst hl0
      exact absurd hi (Nat.not_lt_zero _)
    · rw [List.length_map] at *
      rw [agg_flat] at hgk
      have hlk := H.lt hgk
      have hfl := flat_len3 css hlc
      have hcm := flat_get3 css i hlc hi
      rw [e] at hcm
      refine stp (And.intro hgk (And.intro hcm (And.intro a1 (And.intro a2 (And.intro a3 (And.intro b1 (And.intro b2 b3))))))) ?_
      refine aret_plain hs ?_ hx
      simp only [u_tup, u_agg, u_cons, u_nil, u_bool, u_str, and_true, true_and]
      exact ⟨a4, b4⟩
end
def c36 : ACode := 
    (.seq 
    (.region [⟨(some 3), (.q (.move (.const (.int .i64 0)))), none⟩]) 
    (.seq 
    (.seq 
    (.region [⟨(some 6), (.q (.load false 1 (.tmp 1))), none⟩, ⟨(some 7), (.s (.call 32 [(.tmp 6)])), none⟩, ⟨(some 8), (.q (.un .not (.tmp 7))), none⟩, ⟨(some 9), (.q (.move (.tmp 8))), none⟩, ⟨(some 10), (.q (.load false 1 (.tmp 1))), (some (9, false))⟩, ⟨(some 11), (.s (.call 37 [(.tmp 10), (.const (.str (B [47])))])), (some (9, false))⟩, ⟨(some 12), (.q (.pick (.tmp 9) (.const (.bool true)) (.tmp 11))), none⟩]) 
    (.cond (.tmp 12) 
    (.seq 
    (.region [⟨(some 3), (.q (.move (.const (.int .i64 1)))), none⟩]) .ret) .skip)) 
    (.seq 
    (.seq 
    (.regionN 5 [⟨(some 14), (.q (.move (.tmp 0))), none⟩, ⟨(some 15), (.q (.nonil (.tmp 14))), none⟩, ⟨(some 16), (.q (.load true 3 (.tmp 15))), none⟩, ⟨(some 17), (.q (.load false 1 (.tmp 1))), none⟩, ⟨(some 4), (.q (.move (.const .top))), none⟩, ⟨(some 18), (.s (.call 38 [(.tmp 16), (.tmp 17)])), none⟩, ⟨(some 13), (.q (.move (.tmp 18))), none⟩, ⟨(some 19), (.q (.extract 0 (.tmp 13))), none⟩, ⟨(some 20), (.q (.extract 1 (.tmp 13))), none⟩, ⟨(some 4), (.s (.put 25 3 (.tmp 19))), none⟩, ⟨(some 5), (.q (.move (.tmp 20))), none⟩]) 
    (.seq 
    (.region [⟨(some 21), (.q (.move (.tmp 5))), none⟩]) 
    (.cond (.tmp 21) 
    (.seq 
    (.region [⟨(some 3), (.q (.move (.const (.int .i64 12)))), none⟩]) .ret) .skip))) 
    (.seq 
    (.seq 
    (.region [⟨(some 22), (.q (.move (.tmp 0))), none⟩, ⟨(some 23), (.q (.nonil (.tmp 22))), none⟩, ⟨(some 24), (.q (.fieldAddr 2 (.tmp 23))), none⟩, ⟨(some 25), (.q (.load false 1 (.tmp 24))), none⟩, ⟨(some 26), (.q (.load false 1 (.tmp 1))), none⟩, ⟨(some 27), (.q (.build [(.str (B [])), .nils, .nils] [(0, (1, (.tmp 26)))])), none⟩, ⟨(some 28), (.q (.len false (.tmp 25))), none⟩, ⟨(some 29), (.s (.lit 25 3 [(.const (.agg [(.str (B [])), .nils, .nils]))])), none⟩, ⟨(some 30), (.s (.app 25 3 64 (.tmp 25) (.tmp 29))), none⟩, ⟨(some 31), (.q (.idxSl 3 (.tmp 30) (.tmp 28))), none⟩, ⟨(some 32), (.q (.nonil (.tmp 22))), none⟩, ⟨(some 33), (.q (.fieldAddr 2 (.tmp 32))), none⟩]) (.both 
    (.region [⟨none, (.s (.store 3 (.tmp 31) (.tmp 27))), none⟩, ⟨none, (.s (.store 1 (.tmp 33) (.tmp 30))), none⟩]) 
    (.region [⟨none, (.s (.store 1 (.tmp 33) (.tmp 30))), none⟩, ⟨none, (.s (.store 3 (.tmp 31) (.tmp 27))), none⟩]))) 
    (.seq 
    (.region [⟨(some 3), (.q (.move (.const (.int .i64 0)))), none⟩]) .ret)))))
theorem t36 : Told Tryd.prog 36 34 c36 [(.tmp 3)] := ⟨Tryd.f36, _, [], Tryd.func36, rfl, by kernel_rfl, rfl, by kernel_rfl, by kernel_rfl⟩
theorem row3_2 {R : List AV} {po : Nat} {a b c x : AV} (h : R = R.take po ++ [a, b, c] ++ R.drop (po + 3)) (hl : po + 3 ≤ R.length) : R.take (po + 2) ++ [x] ++ R.drop (po + 2 + 1) = R.take po ++ [a, b, x] ++ R.drop (po + 3) := by
  have hA : (R.take po).length = po := by rw [List.length_take]; omega
  generalize R.take po = L at *
  generalize R.drop (po + 3) = T at *
  subst h
  subst hA
  have e : L ++ [a, b, c] ++ T = L ++ ([a, b, c] ++ T) := List.append_assoc _ _ _
  rw [e, List.take_length_add_append]
  simp
/-- A node has other kids. -/
theorem chg_kids {G G' : AHeap} {pid pg po : Nat} {R : List AV} {name : List UInt8} {vp vk vk' : AV} {ps : List (List UInt8 × List UInt8)} {css' : List (List AV)} {ks' : List Tr} {fps fps' : List (List Nat)}
    (m1 : SlAt 0 G 62 2 vp (ps.map propV)) (hnd : (rowId vp ++ rowId vk ++ fps.flatten).Nodup) (hpF : pid ∉ rowId vp ++ rowId vk ++ fps.flatten) (hpid : pid < G.next)
    (hrow' : G'.get pid = some (.row 25 pg (R.take po ++ [.str (B name), vp, vk'] ++ R.drop (po + 3)))) (hk' : SlAt 0 G' 25 3 vk' (css'.map AV.agg)) (hl' : css'.length = ks'.length) (hf' : fps'.length = ks'.length) (hm' : ∀ j, j < ks'.length → MT G' (css'.getD j []) (ks'.getD j tr0) (fps'.getD j []))
    (hid : ∀ x ∈ rowId vk', x ∈ rowId vk ∨ G.next ≤ x) (hfp : ∀ x ∈ fps'.flatten, x ∈ fps.flatten) (hnf : fps'.flatten.Nodup) (hfl : ∀ x ∈ fps.flatten, x < G.next) (hn : G.next ≤ G'.next) (hw : G'.within G'.next)
    (hfr : ∀ x, x < G.next → x ≠ pid → x ∉ rowId vk → G'.get x = G.get x) : Chg G pid pg po R (rowId vp ++ rowId vk ++ fps.flatten) (.mk name 0 ps 0 ks') G' := by
  rw [List.append_assoc, List.nodup_append] at hnd
  obtain ⟨_, hnd2, hnd3⟩ := hnd
  obtain ⟨_, hnd4, hnd5⟩ := List.nodup_append.1 hnd2
  have hpv : ∀ x ∈ rowId vp, G'.get x = G.get x := fun x hx => hfr x (rowId_lt m1 hx).1 (fun e => hpF (by simp [← e, hx])) (fun q => hnd3 x hx x (List.mem_append_left _ q) rfl)
  refine ⟨hn, hw, fun x hx hxp hxF => hfr x hx hxp (fun q => hxF (by simp [q])), [.str (B name), vp, vk'], rowId vp ++ rowId vk' ++ fps'.flatten, hrow', ?_, ?_, ?_, fun x hx => ?_⟩
  · exact .mk name vp vk' ps css' ks' fps' (slat_same m1 hpv) hk' hl' hf' hm'
  · rw [List.append_assoc, List.nodup_append]
    refine ⟨rowId_nodup vp, List.nodup_append.2 ⟨rowId_nodup vk', hnf, fun x hx y hy e => ?_⟩, fun x hx y hy e => ?_⟩
    · subst e
      rcases hid x hx with g | g
      · exact hnd5 x g x (hfp x hy) rfl
      · have := hfl x (hfp x hy)
        omega
    · subst e
      have hxl := (rowId_lt m1 hx).1
      rcases List.mem_append.1 hy with q | q
      · rcases hid x q with g | g
        · exact hnd3 x hx x (List.mem_append_left _ g) rfl
        · omega
      · exact hnd3 x hx x (List.mem_append_right _ (hfp x q)) rfl
  · intro q
    rcases List.mem_append.1 q with q | q
    · rcases List.mem_append.1 q with q | q
      · exact hpF (by simp [q])
      · rcases hid pid q with g | g
        · exact hpF (by simp [g])
        · omega
    · exact hpF (List.mem_append_right _ (hfp pid q))
  · rcases List.mem_append.1 hx with q | q
    · rcases List.mem_append.1 q with q | q
      · exact .inl (by simp [q])
      · exact (hid x q).imp (fun g => by simp [g]) id
    · exact .inl (List.mem_append_right _ (hfp x q))
theorem addDo {H : AHeap} {i1 : Nat} {nm : List UInt8} (hn : nm.length ≤ 1000) (g1 : H.get i1 = some (.row 9 0 [.str (B nm)])) : DoOk H 36 [.ptr i1 0 0] (addF nm) := by
  intro t G pid pg po R cs F K hb hrow hlen htk hm hnd hpF hP hp0 hF0 hw h
  have hl1 := H.lt g1
  have e1 := (hP.get i1 hl1).trans g1
  have hg1 := G.lt e1
  have hlp := G.lt hrow
  cases hm with
  | mk name vp vk ps css ks fps m1 m2 m3 m4 m5 =>
  obtain ⟨hR0, hR1, hR2, hRs⟩ := cs_parts htk
  have hkl : ks.length ≤ 1000000 := by cases hb; assumption
  obtain ⟨p1, p2, p3, p4⟩ := slat_one2 m1
  obtain ⟨q1, q2, q3, q4⟩ := slat_one2 m2
  refine acalls_go mo t36 (fun hs hu => ?_)
  simp only [c36, go_sem, Nat.reduceLeDiff, Nat.reduceAdd, Nat.reduceSub, Nat.reduceMul, Nat.reduceLT, Int.reduceLT, Int.reduceLE, Int.reduceAdd, Int.reduceSub, Int.reduceMul, Int.reduceToNat, Int.reduceNeg, Int.reduceEq, Nat.reducePow, Int.reducePow, Nat.reduceEqDiff, decide_true, decide_false, reduceIte, reduceCtorEq, Int.reduceBEq, Int.reduceBNe, bne_self_eq_false, Int.cast_ofNat_Int, Bool.not_true, Bool.not_false, IntKind.bits]
  refine stp e1 ?_
  refine mayE_a hn ?_
  have hno : mayK nm = false → ∀ os, ARet G.next K (.int .i64 1) (hp G os) := fun hmk os => by
    have hf : addF nm (.mk name 0 ps 0 ks) = (.mk name 0 ps 0 ks, 1) := by
      unfold addF
      rw [hmk, if_neg Bool.false_ne_true]
    rw [hf] at h
    exact aret_plain hw (.int _ _) (h G (fun x _ _ _ => rfl) hw (Nat.le_refl _) (fun e => absurd (show (1 : Int) = 0 from e) (by decide)))
  cases hmy : mayL nm with
  | false =>
    refine stp0 ?_
    exact hno (by unfold mayK; rw [hmy]; rfl) _
  | true =>
    refine stp e1 ?_
    refine contains_a ?_
    cases hmc : (cut1 47 nm).2.2 with
    | true =>
      refine stp0 ?_
      exact hno (by unfold mayK; rw [hmc, Bool.not_true, Bool.and_false]) _
    | false =>
      have hmk : mayK nm = true := by unfold mayK; rw [hmy, hmc]; rfl
      refine stp (And.intro hrow (And.intro htk e1)) ?_
      rw [hp_nil]
      refine kidM_a m1 m2 m3 m5 hkl (fun x a b ha hb2 hau hbu => ?_)
      obtain ⟨a1, a2, a3⟩ := ha
      obtain ⟨b1, b2, b3⟩ := hb2
      rw [← hp_nil (H := G)]
      cases hhk : hasK nm ks with
      | true =>
        have hf : addF nm (.mk name 0 ps 0 ks) = (.mk name 0 ps 0 ks, 12) := by
          unfold addF
          rw [hmk, if_pos rfl, show (Tr.mk name 0 ps 0 ks).kids = ks from rfl, hhk, if_pos rfl]
        rw [hf] at h
        refine stp (And.intro a1 (And.intro a2 (And.intro a3 (And.intro b1 (And.intro b2 b3))))) ?_
        exact aret_plain hw (.int _ _) (h G (fun x _ _ _ => rfl) hw (Nat.le_refl _) (fun e => absurd (show (12 : Int) = 0 from e) (by decide)))
      | false =>
        have hf : addF nm (.mk name 0 ps 0 ks) = (.mk name 0 ps 0 (ks ++ [.mk nm 0 [] 0 []]), 0) := by
          unfold addF
          rw [hmk, if_pos rfl, show (Tr.mk name 0 ps 0 ks).kids = ks from rfl, hhk, if_neg Bool.false_ne_true]
          rfl
        rw [hf] at h
        have hvl := slat_len m2
        rw [List.length_map] at hvl
        have hwh : (hp G [.row 25 0 [.str (B x), a, b]]).within (hp G [.row 25 0 [.str (B x), a, b]]).next := within_hp2 hw (fun o ho => by
          rw [List.mem_singleton] at ho
          subst ho
          intro c hc
          simp only [List.mem_cons, List.mem_nil_iff, or_false] at hc
          rcases hc with rfl | rfl | rfl
          · exact .str _
          · exact up_under (Nat.le_add_right _ _) hau
          · exact up_under (Nat.le_add_right _ _) hbu)
        have hlc := css_len m3 m5
        have hcl : ∀ x ∈ css.map AV.agg, x.cells.length = 3 := fun x hx => by
          obtain ⟨c, hc, rfl⟩ := List.mem_map.1 hx
          exact hlc c hc
        obtain ⟨v3, G4, hE, hv3, hgr, hw4, hfr⟩ := slat_app4 (G := hp G [.row 25 0 [.str (B x), a, b]]) (b := 64) (ys := [.agg [.str (B []), .nils, .nils]]) (slat_hp m2 _) (Nat.zero_le _) hcl (by rfl) (by simp only [List.length_map, List.length_singleton]; omega) hwh (fun x hx c hc => by
          rw [List.mem_singleton] at hx
          subst hx
          have hc : c ∈ [AV.str (B []), AV.nils, AV.nils] := hc
          simp only [List.mem_cons, List.mem_nil_iff, or_false] at hc
          rcases hc with rfl | rfl | rfl
          · exact .str _
          · exact .nils
          · exact .nils)
        have hpk : pid ∉ rowId vk := fun q => hpF (by simp [q])
        have hfrG : ∀ x, x < G.next → x ∉ rowId vk → G4.get x = G.get x := fun x hx hxv => (hfr x (by show x < G.next + 1; omega) hxv).trans (hp_old hx)
        have hr4 : G4.get pid = some (.row 25 pg R) := (hfrG pid hlp hpk).trans hrow
        have hl4 := G4.lt hr4
        have hid3 : ∀ x ∈ rowId v3, x ∈ rowId vk ∨ G.next ≤ x := fun x hx => by
          by_cases hxn : x < G.next
          · refine .inl (Decidable.byContradiction fun hc => ?_)
            obtain ⟨gen, off, len, sz, e⟩ := rowId_of hx
            exact hgr.id x (by show x < G.next + 1; omega) (rowId_wr hc) gen off len sz e
          · exact .inr (by omega)
        have hnn : G.next ≤ G4.next := by have := hgr.next; have : G.next + 1 ≤ G4.next := this; omega
        rcases hv3 with ⟨_, he⟩ | ⟨id3, gen3, rfl, _, hg3⟩
        · simp at he
        · have hlen3 : (css.map AV.agg ++ [AV.agg [.str (B []), .nils, .nils]]).length = css.length + 1 := by rw [List.length_append, List.length_map, List.length_singleton]
          have hcells : (css.map AV.agg ++ [AV.agg [.str (B []), .nils, .nils]]).flatMap AV.cells = css.flatten ++ [.str (B []), .nils, .nils] := by
            rw [List.flatMap_append, agg_flat]
            rfl
          rw [hlen3] at hE hid3
          rw [hcells] at hg3
          have hfl := flat_len3 css hlc
          have hip : id3 ≠ pid := fun e => by
            rcases hid3 id3 (List.mem_singleton.2 rfl) with g | g
            · exact hpk (by rw [← e]; exact g)
            · omega
          have hl3 := G4.lt hg3
          have hst : (css.flatten ++ [AV.str (B []), .nils, .nils]).take (css.length * 3) ++ [.str (B nm), .nils, .nils] ++ (css.flatten ++ [AV.str (B []), .nils, .nils]).drop (css.length * 3 + 3) = css.flatten ++ [.str (B nm), .nils, .nils] := by
            rw [List.take_left' hfl, List.drop_of_length_le (by rw [List.length_append, hfl]; exact Nat.le_refl _), List.append_nil]
          have hr43 : ∀ o, (G4.set id3 o).get pid = some (.row 25 pg R) := fun o => (set_other (fun e => hip e.symm)).trans hr4
          have hg34 : ∀ o, (G4.set pid o).get id3 = some (.row 25 gen3 (css.flatten ++ [.str (B []), .nils, .nils])) := fun o => (set_other hip).trans hg3
          have hfin : ARet G.next K (.int .i64 0) ((G4.set id3 (.row 25 gen3 (css.flatten ++ [.str (B nm), .nils, .nils]))).set pid (.row 25 pg (R.take po ++ [.str (B name), vp, .wr id3 gen3 0 (css.length + 1) 3] ++ R.drop (po + 3)))) := by
            have hXu : AllU G4.next (css.flatten ++ [AV.str (B nm), .nils, .nils]) := fun c hc => by
              have h3u := hw4 id3 _ hl3 hg3
              rcases List.mem_append.1 hc with q | q
              · exact h3u c (List.mem_append_left _ q)
              · simp only [List.mem_cons, List.mem_nil_iff, or_false] at q
                rcases q with rfl | rfl | rfl
                · exact .str _
                · exact .nils
                · exact .nils
            have hw5 : ((G4.set id3 (.row 25 gen3 (css.flatten ++ [.str (B nm), .nils, .nils]))).set pid (.row 25 pg (R.take po ++ [.str (B name), vp, .wr id3 gen3 0 (css.length + 1) 3] ++ R.drop (po + 3)))).within G4.next := within_set (within_set hw4 hXu) (fun c hc => by
              have hRu := hw pid _ hlp hrow
              rcases List.mem_append.1 hc with q | q
              · rcases List.mem_append.1 q with q | q
                · exact up_under hnn (hRu c (List.mem_of_mem_take q))
                · simp only [List.mem_cons, List.mem_nil_iff, or_false] at q
                  rcases q with rfl | rfl | rfl
                  · exact .str _
                  · exact up_under hnn p4
                  · exact .wr _ _ _ _ _ hl3
              · exact up_under hnn (hRu c (List.mem_of_mem_drop q)))
            have hg5 : ((G4.set id3 (.row 25 gen3 (css.flatten ++ [.str (B nm), .nils, .nils]))).set pid (.row 25 pg (R.take po ++ [.str (B name), vp, .wr id3 gen3 0 (css.length + 1) 3] ++ R.drop (po + 3)))).get id3 = some (.row 25 gen3 (css.flatten ++ [.str (B nm), .nils, .nils])) := (set_other hip).trans (set_got hl3)
            have hp5 : ((G4.set id3 (.row 25 gen3 (css.flatten ++ [.str (B nm), .nils, .nils]))).set pid (.row 25 pg (R.take po ++ [.str (B name), vp, .wr id3 gen3 0 (css.length + 1) 3] ++ R.drop (po + 3)))).get pid = some (.row 25 pg (R.take po ++ [.str (B name), vp, .wr id3 gen3 0 (css.length + 1) 3] ++ R.drop (po + 3))) := set_got (show pid < G4.next from hl4)
            have ho5 : ∀ x, x ≠ pid → x ≠ id3 → ((G4.set id3 (.row 25 gen3 (css.flatten ++ [.str (B nm), .nils, .nils]))).set pid (.row 25 pg (R.take po ++ [.str (B name), vp, .wr id3 gen3 0 (css.length + 1) 3] ++ R.drop (po + 3)))).get x = G4.get x := fun x h1 h2 => (set_other h1).trans (set_other h2)
            have hn5 : ((G4.set id3 (.row 25 gen3 (css.flatten ++ [.str (B nm), .nils, .nils]))).set pid (.row 25 pg (R.take po ++ [.str (B name), vp, .wr id3 gen3 0 (css.length + 1) 3] ++ R.drop (po + 3)))).next = G4.next := rfl
            generalize (G4.set id3 (.row 25 gen3 (css.flatten ++ [.str (B nm), .nils, .nils]))).set pid (.row 25 pg (R.take po ++ [.str (B name), vp, .wr id3 gen3 0 (css.length + 1) 3] ++ R.drop (po + 3))) = G5 at *
            have hfr5 : ∀ x, x < G.next → x ≠ pid → x ∉ rowId vk → G5.get x = G.get x := fun x h1 h2 h3 => (ho5 x h2 (fun e => by
              rcases hid3 id3 (List.mem_singleton.2 rfl) with g | g
              · exact h3 (by rw [e]; exact g)
              · omega)).trans (hfrG x h1 h3)
            have hnd0 := hnd
            rw [List.append_assoc, List.nodup_append] at hnd0
            have hnd2 := List.nodup_append.1 hnd0.2.1
            have hfpl : ∀ x ∈ fps.flatten, x < G.next := fun x hx => by
              obtain ⟨j, hj, hxj⟩ := mem_fl hx
              exact mt_lt (m5 j (by omega)) x hxj
            have hnn5 : G.next ≤ G5.next := by omega
            have hchg : Chg G pid pg po R (rowId vp ++ rowId vk ++ fps.flatten) (.mk name 0 ps 0 (ks ++ [.mk nm 0 [] 0 []])) G5 := by
              refine chg_kids (css' := css ++ [[.str (B nm), .nils, .nils]]) (fps' := fps ++ [[]]) m1 hnd hpF hlp hp5 (.inr ⟨id3, gen3, by rw [List.length_map, List.length_append, List.length_singleton], Nat.zero_le _, by rw [agg_flat, List.flatten_append]; exact hg5⟩) (by rw [List.length_append, List.length_append, m3]; rfl) (by rw [List.length_append, List.length_append, m4]; rfl) (fun j hj => ?_) hid3 (fun x hx => by simpa using hx) (by simpa using hnd2.2.1) hfpl hnn5 (by rw [hn5]; exact hw5) hfr5
              rw [List.length_append, List.length_singleton] at hj
              by_cases hje : j = ks.length
              · have e1 : (css ++ [[AV.str (B nm), AV.nils, AV.nils]]).getD j [] = [AV.str (B nm), AV.nils, AV.nils] := by
                  rw [List.getD_eq_getElem?_getD, List.getElem?_append_right (by omega), hje, m3, Nat.sub_self]
                  rfl
                have e2 : (ks ++ [Tr.mk nm 0 [] 0 []]).getD j tr0 = Tr.mk nm 0 [] 0 [] := by
                  rw [List.getD_eq_getElem?_getD, List.getElem?_append_right (by omega), hje, Nat.sub_self]
                  rfl
                have e3 : (fps ++ [([] : List Nat)]).getD j [] = [] := by
                  rw [List.getD_eq_getElem?_getD, List.getElem?_append_right (by omega), hje, m4, Nat.sub_self]
                  rfl
                rw [e1, e2, e3]
                exact MT.mk (G := G5) nm .nils .nils [] [] [] [] (.inl ⟨rfl, rfl⟩) (.inl ⟨rfl, rfl⟩) rfl rfl (fun i hi => absurd hi (Nat.not_lt_zero _))
              · have hjl : j < ks.length := by omega
                have e1 : (css ++ [[AV.str (B nm), AV.nils, AV.nils]]).getD j [] = css.getD j [] := by
                  rw [List.getD_eq_getElem?_getD, List.getElem?_append_left (by omega), List.getD_eq_getElem?_getD]
                have e2 : (ks ++ [Tr.mk nm 0 [] 0 []]).getD j tr0 = ks.getD j tr0 := by
                  rw [List.getD_eq_getElem?_getD, List.getElem?_append_left (by omega), List.getD_eq_getElem?_getD]
                have e3 : (fps ++ [([] : List Nat)]).getD j [] = fps.getD j [] := by
                  rw [List.getD_eq_getElem?_getD, List.getElem?_append_left (by omega), List.getD_eq_getElem?_getD]
                rw [e1, e2, e3]
                exact mt_same (m5 j hjl) (fun x hx => hfr5 x (mt_lt (m5 j hjl) x hx) (fun e => hpF (List.mem_append_right _ (by rw [← e]; exact mem_fps hx))) (fun q => hnd2.2.2 x q x (mem_fps hx) rfl))
            exact aret_full (G := G5) hnn5 (by rw [hn5]; exact hw5) (.int _ _) (h G5 (fun x hx hxp hxF => hfr5 x hx hxp (fun q => hxF (by simp [q]))) (by rw [hn5]; exact hw5) hnn5 (fun _ => hchg))
          rw [hp_nil] at hE
          have hE : aapp 25 3 64 (hp G [.row 25 0 [.str (B x), a, b]]) vk (.imm 3 [.agg [.str (B []), .nils, .nils]]) = some (.wr id3 gen3 0 (css.length + 1) 3, G4) := hE
          refine stp (And.intro a1 (And.intro a2 (And.intro a3 (And.intro b1 (And.intro b2 (And.intro b3 (And.intro hrow (And.intro hR2 (And.intro e1 (And.intro hvl hE)))))))))) ?_
          rw [← hp_nil (H := G4), go_both]
          refine ⟨?_, ?_⟩
          · refine stp (And.intro hg3 (And.intro hst hr43)) ?_
            rw [hp_nil, row3_2 hRs hlen]
            exact hfin
          · refine stp (And.intro hr4 (And.intro hg34 hst)) ?_
            rw [hp_nil, row3_2 hRs hlen, set_swap (fun e => hip e.symm)]
            exact hfin
def dropF (nm : List UInt8) (t : Tr) : Tr × Int := match cutF (fun k : Tr => decide (k.name = nm)) t.kids with
  | some ks => (.mk t.name 0 t.props 0 ks, 0)
  | none => (t, 8)
theorem cutF_none {α : Type} (p : α → Bool) : ∀ {l : List α}, (∀ x ∈ l, p x = false) → cutF p l = none
  | [], _ => rfl
  | x :: l, h => by
    rw [cutF, if_neg (by rw [h x List.mem_cons_self]; exact Bool.false_ne_true), cutF_none p (fun y hy => h y (List.mem_cons_of_mem _ hy))]
    rfl
theorem cutF_ix {α : Type} (d : α) (p : α → Bool) : ∀ {l : List α} {i : Nat}, i < l.length → p (l.getD i d) = true → (∀ j, j < i → p (l.getD j d) = false) → cutF p l = some (l.take i ++ l.drop (i + 1))
  | [], i, h, _, _ => absurd h (Nat.not_lt_zero _)
  | x :: l, 0, _, h, _ => by
    have h : p x = true := h
    rw [cutF, if_pos h]
    rfl
  | x :: l, i + 1, hi, h, h2 => by
    have h0 : p x = false := h2 0 (by omega)
    rw [cutF, if_neg (by rw [h0]; exact Bool.false_ne_true), cutF_ix d p (l := l) (i := i) (by simpa using hi) h (fun j hj => h2 (j + 1) (by omega))]
    rfl
theorem cut_sub {α : Type} (l : List α) (i : Nat) : (l.take i ++ l.drop (i + 1)).Sublist l := by
  have h := (List.Sublist.refl (l.take i)).append (List.drop_sublist_drop_left l (Nat.le_succ i))
  rw [List.take_append_drop] at h
  exact h
theorem flat_sub {α : Type} {l m : List (List α)} (h : l.Sublist m) : l.flatten.Sublist m.flatten := by
  induction h with
  | slnil => exact List.Sublist.refl _
  | cons a _ ih =>
    rw [List.flatten_cons]
    exact ih.trans (List.sublist_append_right _ _)
  | cons_cons a _ ih =>
    rw [List.flatten_cons, List.flatten_cons]
    exact (List.Sublist.refl _).append ih
theorem cut_getD {α : Type} (d : α) (l : List α) (i j : Nat) (h : i < l.length) : (l.take i ++ l.drop (i + 1)).getD j d = if j < i then l.getD j d else l.getD (j + 1) d := by
  have hl : (l.take i).length = i := by rw [List.length_take]; omega
  rw [List.getD_eq_getElem?_getD]
  by_cases hj : j < i
  · rw [if_pos hj, List.getElem?_append_left (by omega), List.getElem?_take, if_pos hj, List.getD_eq_getElem?_getD]
  · rw [if_neg hj, List.getElem?_append_right (by omega), hl, List.getElem?_drop, List.getD_eq_getElem?_getD, show i + 1 + (j - i) = j + 1 by omega]
theorem drop2_a {H : AHeap} {K : AV → AHeap → Prop} {i1 i2 k last : Nat} {x : List UInt8} {names : List (List UInt8)} {a b : AV} (g1 : H.get i1 = some (.row 54 0 [slA k 1 (names.map strV)])) (g2 : H.get i2 = some (.row 3 0 [.int .i64 (last : Int)])) (hl : last < names.length) (ha : a.flat = true ∧ a.cells = [a] ∧ a.one = true) (hb : b.flat = true ∧ b.cells = [b] ∧ b.one = true)
    (h : K (.bool (decide (x = names.getD last []))) H) : (ACalls Tryd.prog) 43 [.agg [.str (B x), a, b], .ptr i1 0 0, .ptr i2 0 0] H K := by
  refine acalls_go mo t43 (fun hs hu => ?_)
  have hl1 := H.lt g1
  have hl2 := H.lt g2
  obtain ⟨a1, a2, a3⟩ := ha
  obtain ⟨b1, b2, b3⟩ := hb
  have hat := strs_at hl
  generalize names.getD last [] = nm at *
  simp only [c43, go_sem, Nat.reduceLeDiff, Nat.reduceAdd, Nat.reduceSub, Nat.reduceMul, Nat.reduceLT, Int.reduceLT, Int.reduceLE, Int.reduceAdd, Int.reduceSub, Int.reduceMul, Int.reduceToNat, Int.reduceNeg, Int.reduceEq, Nat.reducePow, Int.reducePow, Nat.reduceEqDiff, decide_true, decide_false, reduceIte, reduceCtorEq, Int.reduceBEq, Int.reduceBNe, bne_self_eq_false, Int.cast_ofNat_Int, Bool.not_true, Bool.not_false, IntKind.bits]
  refine stp (And.intro a1 (And.intro a2 (And.intro a3 (And.intro b1 (And.intro b2 (And.intro b3 (And.intro @g1 (And.intro @g2 hat)))))))) ?_
  exact aret_u hs (h)
theorem dropDo {H : AHeap} {i1 i2 k last : Nat} {names : List (List UInt8)} (g1 : H.get i1 = some (.row 54 0 [slA k 1 (names.map strV)])) (g2 : H.get i2 = some (.row 3 0 [.int .i64 (last : Int)])) (hlast : last < names.length) : DoOk H 41 [.ptr i1 0 0, .ptr i2 0 0] (dropF (names.getD last [])) := by
  intro t G pid pg po R cs F K hb hrow hlen htk hm hnd hpF hP hp0 hF0 hw h
  have e1 := (hP.get i1 (H.lt g1)).trans g1
  have e2 := (hP.get i2 (H.lt g2)).trans g2
  have hlp := G.lt hrow
  cases hm with
  | mk name vp vk ps css ks fps m1 m2 m3 m4 m5 =>
  obtain ⟨hR0, hR1, hR2, hRs⟩ := cs_parts htk
  have hkl : ks.length ≤ 1000000 := by cases hb; assumption
  have hlc := css_len m3 m5
  generalize hnm : names.getD last [] = nm at *
  refine acalls_go mo t41 (fun hs hu => ?_)
  simp only [c41, go_sem, Nat.reduceLeDiff, Nat.reduceAdd, Nat.reduceSub, Nat.reduceMul, Nat.reduceLT, Int.reduceLT, Int.reduceLE, Int.reduceAdd, Int.reduceSub, Int.reduceMul, Int.reduceToNat, Int.reduceNeg, Int.reduceEq, Nat.reducePow, Int.reducePow, Nat.reduceEqDiff, decide_true, decide_false, reduceIte, reduceCtorEq, Int.reduceBEq, Int.reduceBNe, bne_self_eq_false, Int.cast_ofNat_Int, Bool.not_true, Bool.not_false, IntKind.bits]
  refine stp (And.intro hrow hR2) ?_
  rw [hp_nil]
  refine nodeIx_a (p := fun j => decide ((ks.getD j tr0).name = nm)) m2 hlc (by omega) (fun j hj K hk => ?_) (fun hno => ?_) (fun i hi hpi hbef => ?_)
  · obtain ⟨a, b, e, ⟨a1, a2, a3, _⟩, b1, b2, b3, _⟩ := mt_cs (m5 j (by omega))
    rw [e]
    exact drop2_a e1 e2 hlast ⟨a1, a2, a3⟩ ⟨b1, b2, b3⟩ (by rw [hnm]; exact hk)
  · have hf : dropF nm (.mk name 0 ps 0 ks) = (.mk name 0 ps 0 ks, 8) := by
      have hz := cutF_none (fun k : Tr => decide (k.name = nm)) (l := ks) (fun x hx => by
        obtain ⟨j, hj, rfl⟩ := List.getElem_of_mem hx
        have := hno j (by omega)
        rw [List.getD_eq_getElem?_getD, List.getElem?_eq_getElem hj] at this
        exact this)
      unfold dropF
      rw [show (Tr.mk name 0 ps 0 ks).kids = ks from rfl, hz]
    rw [hf] at h
    rw [← hp_nil (H := G)]
    refine stp0 ?_
    rw [hp_nil]
    exact aret_full (Nat.le_refl _) hw (.int _ _) (h G (fun x _ _ _ => rfl) hw (Nat.le_refl _) (fun e => absurd (show (8 : Int) = 0 from e) (by decide)))
  · have hik : i < ks.length := by omega
    have hf : dropF nm (.mk name 0 ps 0 ks) = (.mk name 0 ps 0 (ks.take i ++ ks.drop (i + 1)), 0) := by
      have hz := cutF_ix tr0 (fun k : Tr => decide (k.name = nm)) (l := ks) hik hpi hbef
      unfold dropF
      rw [show (Tr.mk name 0 ps 0 ks).kids = ks from rfl, hz]
      rfl
    rw [hf] at h
    rw [← hp_nil (H := G)]
    refine stp (And.intro hrow hR2) ?_
    rw [hp_nil]
    have hcl : ∀ x ∈ css.map AV.agg, x.cells.length = 3 := fun x hx => by
      obtain ⟨c, hc, rfl⟩ := List.mem_map.1 hx
      exact hlc c hc
    have hone : ((css.map AV.agg).flatMap AV.cells).all AV.one = true := by
      rw [agg_flat, List.all_eq_true]
      intro c hc
      obtain ⟨l, hl, hcl2⟩ := List.mem_flatten.1 hc
      obtain ⟨j, hj, rfl⟩ := List.getElem_of_mem hl
      have hmj := m5 j (by omega)
      rw [List.getD_eq_getElem?_getD, List.getElem?_eq_getElem hj] at hmj
      obtain ⟨a, b, e, ⟨_, _, a3, _⟩, _, _, b3, _⟩ := mt_cs hmj
      rw [show (some css[j]).getD [] = css[j] from rfl] at e
      rw [e] at hcl2
      simp only [List.mem_cons, List.mem_nil_iff, or_false] at hcl2
      rcases hcl2 with rfl | rfl | rfl
      · rfl
      · exact a3
      · exact b3
    refine delNd_a m2 hcl hone (by rw [List.length_map]; exact hi) (by rw [List.length_map]; omega) (fun v' G' hv' hri hn' hfr hw' => ?_)
    have hmap : (css.map AV.agg).take i ++ (css.map AV.agg).drop (i + 1) = (css.take i ++ css.drop (i + 1)).map AV.agg := by rw [List.map_append, List.map_take, List.map_drop]
    rw [hmap] at hv'
    have hpv : pid ∉ rowId vk := fun q => hpF (by simp [q])
    have hr' : G'.get pid = some (.row 25 pg R) := (hfr pid hpv).trans hrow
    have hl' := G'.lt hr'
    obtain ⟨x1, x2, x3, x4⟩ := slat_one2 hv'
    rw [← hp_nil (H := G')]
    refine stp (And.intro hr' (And.intro x1 (And.intro x2 x3))) ?_
    rw [hp_nil, row3_2 hRs hlen]
    have hrow' : (G'.set pid (.row 25 pg (R.take po ++ [.str (B name), vp, v'] ++ R.drop (po + 3)))).get pid = some (.row 25 pg (R.take po ++ [.str (B name), vp, v'] ++ R.drop (po + 3))) := set_got hl'
    have hw2 : (G'.set pid (.row 25 pg (R.take po ++ [.str (B name), vp, v'] ++ R.drop (po + 3)))).within G'.next := within_set hw' (fun c hc => by
      have hRu := hw' pid _ hl' hr'
      rcases List.mem_append.1 hc with q | q
      · rcases List.mem_append.1 q with q | q
        · exact hRu c (List.mem_of_mem_take q)
        · simp only [List.mem_cons, List.mem_nil_iff, or_false] at q
          rcases q with rfl | rfl | rfl
          · exact .str _
          · rw [hn']
            exact (slat_one2 m1).2.2.2
          · exact x4
      · exact hRu c (List.mem_of_mem_drop q))
    have hfr' : ∀ x, x < G.next → x ≠ pid → x ∉ rowId vk → (G'.set pid (.row 25 pg (R.take po ++ [.str (B name), vp, v'] ++ R.drop (po + 3)))).get x = G.get x := fun x hx hxp hxv => (set_other hxp).trans (hfr x hxv)
    have hnn : G.next ≤ G'.next := by omega
    have hnd0 := hnd
    rw [List.append_assoc, List.nodup_append] at hnd0
    have hnd2 := List.nodup_append.1 hnd0.2.1
    have hfpl : ∀ x ∈ fps.flatten, x < G.next := fun x hx => by
      obtain ⟨j, hj, hxj⟩ := mem_fl hx
      exact mt_lt (m5 j (by omega)) x hxj
    have hlcut : ∀ {α : Type} (l : List α), l.length = ks.length → (l.take i ++ l.drop (i + 1)).length = ks.length - 1 := fun l hl => by
      rw [List.length_append, List.length_take, List.length_drop]
      omega
    have hchg := chg_kids (css' := css.take i ++ css.drop (i + 1)) (ks' := ks.take i ++ ks.drop (i + 1)) (fps' := fps.take i ++ fps.drop (i + 1)) m1 hnd hpF hlp hrow' (slat_same hv' (fun x hx => set_other (fun e => hpv (by rw [← e, ← hri]; exact hx)))) (by rw [hlcut css m3, hlcut ks rfl]) (by rw [hlcut fps m4, hlcut ks rfl]) (fun j hj => by
      rw [hlcut ks rfl] at hj
      rw [cut_getD [] css i j (by omega), cut_getD tr0 ks i j (by omega), cut_getD [] fps i j (by omega)]
      have go : ∀ q, q < ks.length → MT (G'.set pid (.row 25 pg (R.take po ++ [.str (B name), vp, v'] ++ R.drop (po + 3)))) (css.getD q []) (ks.getD q tr0) (fps.getD q []) := fun q hq => mt_same (m5 q hq) (fun x hx => hfr' x (mt_lt (m5 q hq) x hx) (fun e => hpF (List.mem_append_right _ (by rw [← e]; exact mem_fps hx))) (fun e => hnd2.2.2 x e x (mem_fps hx) rfl))
      by_cases hji : j < i
      · rw [if_pos hji, if_pos hji, if_pos hji]
        exact go j (by omega)
      · rw [if_neg hji, if_neg hji, if_neg hji]
        exact go (j + 1) (by omega)) (fun x hx => .inl (by rw [← hri]; exact hx)) (fun x hx => (flat_sub (cut_sub fps i)).subset hx) (hnd2.2.1.sublist (flat_sub (cut_sub fps i))) hfpl hnn hw2 hfr'
    exact aret_full (G := G'.set pid (.row 25 pg (R.take po ++ [.str (B name), vp, v'] ++ R.drop (po + 3)))) hnn hw2 (.int _ _) (h _ (fun x hx hxp hxF => hfr' x hx hxp (fun q => hxF (by simp [q]))) hw2 hnn (fun _ => hchg))
section
variable {H : AHeap} {K : AV → AHeap → Prop}
theorem Unset_a {t : Tr} {p nm : List UInt8} (ho : TrOk t) (hb : TrB t) (hbs : TrB t.strip) (hp_ : p.length < 100000)
    (hok : ∀ ns, (downS (unsetF nm) ns t.strip).2 = 0 → TrOk (downS (unsetF nm) ns t.strip).1) (hns : ∀ ns, partsP p = some ns → ns.length ≤ 100000) (h : ∀ t' : Tr, t'.strip = (changedS (unsetF nm) p t.strip).1.strip → K (.tup [t'.V, .int .i64 (changedS (unsetF nm) p t.strip).2]) H) :
    (ACalls Tryd.prog) 16 [t.V, .str (B p), .str (B nm)] H K := by
  refine acalls_go mo t16 (fun hs hu => ?_)
  have hVi := Tr.V_is t
  simp only [c16, Tr.V_is, go_sem, Nat.reduceLeDiff, Nat.reduceAdd, Nat.reduceSub, Nat.reduceMul, Nat.reduceLT, Int.reduceLT, Int.reduceLE, Int.reduceAdd, Int.reduceSub, Int.reduceMul, Int.reduceToNat, Int.reduceNeg, Int.reduceEq, Nat.reducePow, Int.reducePow, Nat.reduceEqDiff, decide_true, decide_false, reduceIte, reduceCtorEq, Int.reduceBEq, Int.reduceBNe, bne_self_eq_false, Int.cast_ofNat_Int, Bool.not_true, Bool.not_false, IntKind.bits]
  rw [← hVi]
  refine changed_a (unsetDo (hp_get _ _ 1)) ho hb hbs hp_ (fun c hc => ?_) hok hns (fun t' ht' => ?_)
  · rw [List.mem_singleton] at hc
    subst hc
    exact .ptr _ _ _ (by show H.next + 1 < H.next + 3; omega)
  · have hx := h t' ht'
    have hV2 := Tr.V_is t'
    have hVu := Tr.V_u H.next t'
    rw [hV2] at hx hVu
    refine stp hV2 ?_
    refine aret_plain hs ?_ hx
    simp only [u_tup, u_cons, u_nil, u_int, and_true]
    exact hVu
theorem Add_a {t : Tr} {p nm : List UInt8} (hn : nm.length ≤ 1000) (ho : TrOk t) (hb : TrB t) (hbs : TrB t.strip) (hp_ : p.length < 100000)
    (hok : ∀ ns, (downS (addF nm) ns t.strip).2 = 0 → TrOk (downS (addF nm) ns t.strip).1) (hns : ∀ ns, partsP p = some ns → ns.length ≤ 100000) (h : ∀ t' : Tr, t'.strip = (changedS (addF nm) p t.strip).1.strip → K (.tup [t'.V, .int .i64 (changedS (addF nm) p t.strip).2]) H) :
    (ACalls Tryd.prog) 17 [t.V, .str (B p), .str (B nm)] H K := by
  refine acalls_go mo t17 (fun hs hu => ?_)
  have hVi := Tr.V_is t
  simp only [c17, Tr.V_is, go_sem, Nat.reduceLeDiff, Nat.reduceAdd, Nat.reduceSub, Nat.reduceMul, Nat.reduceLT, Int.reduceLT, Int.reduceLE, Int.reduceAdd, Int.reduceSub, Int.reduceMul, Int.reduceToNat, Int.reduceNeg, Int.reduceEq, Nat.reducePow, Int.reducePow, Nat.reduceEqDiff, decide_true, decide_false, reduceIte, reduceCtorEq, Int.reduceBEq, Int.reduceBNe, bne_self_eq_false, Int.cast_ofNat_Int, Bool.not_true, Bool.not_false, IntKind.bits]
  rw [← hVi]
  refine changed_a (addDo hn (hp_get _ _ 1)) ho hb hbs hp_ (fun c hc => ?_) hok hns (fun t' ht' => ?_)
  · rw [List.mem_singleton] at hc
    subst hc
    exact .ptr _ _ _ (by show H.next + 1 < H.next + 3; omega)
  · have hx := h t' ht'
    have hV2 := Tr.V_is t'
    have hVu := Tr.V_u H.next t'
    rw [hV2] at hx hVu
    refine stp hV2 ?_
    refine aret_plain hs ?_ hx
    simp only [u_tup, u_cons, u_nil, u_int, and_true]
    exact hVu
end
end Go.Proofs.YtdknpnmdjjmapaaDoor.AL
/- Builders: what their functions do in any program that bears them (after the shelf's own walks), over worlds of which only the builder's cells are told. -/
namespace Go.Proofs.YtdknpnmdjjmapaaDoor.AL
open Go Go.Proofs Go.Shelf Go.RowKit
section
variable {P : Program} {ρ : Ren}
end
end Go.Proofs.YtdknpnmdjjmapaaDoor.AL
/- The code of builders, told. -/
namespace Go.Proofs.YtdknpnmdjjmapaaDoor.AL
open Go Go.Proofs
end Go.Proofs.YtdknpnmdjjmapaaDoor.AL
/- Builders told: a row of two cells, of which the second is the bytes so far. -/
set_option linter.unusedVariables false
set_option linter.unusedSimpArgs false
set_option maxRecDepth 100000
set_option maxHeartbeats 16000000
namespace Go.Proofs
open Go.Shelf
shelf_lay Lays.n169 Nm 169 at Tryd as Tryd.lays169
namespace YtdknpnmdjjmapaaDoor.AL
open Go Go.RowKit
attribute [local go_sem] go_seq go_skip go_region go_regionN go_fregion rgF_some go_cond go_block go_exit go_ret nxt_nil nxt_code nxt_blk nxt_cut leave_nil leave_code leave_cut leave_blk rtn_nil rtn_code rtn_blk rtn_cut cnd_t cnd_f rgn_nil rgY_some rgY_none rgH_some rgP_some retTo_is rgV_func grd_und grd_tt grd_ff grd_tf grd_ft rgn_q rgn_alloc rgn_box rgn_store rgn_lit rgn_litw litCells_nil litCells_cons rgn_app rgn_copy rgn_mk rgn_s2b rgn_call rgn_callv rgn_stop rgn_slice3 aslice3 rgn_slice3l aslice3l rgn_appz rgn_clear rgn_range rgn_next arange acap rgn_put rgn_mkmap rgn_lookup rgn_mapup alookup_nilm alookup_map amapup_map afound_ok afound_no rgn_c rgn_cv qclV_func aloadr rgn_guard post_ret post_normal retY_some ares aresL ares1 AX.ev aput List.getD_cons_zero List.getD_cons_succ List.set_cons_zero List.set_cons_succ List.map_cons List.map_nil aq abin aint astr abeq aconv asame aextract alenS alenL_nils alenL_emp alenL_imm alenL_wr alenL_wc aun apart aload afieldAddr afield aidxSl_wr aidxSl_wc aidxSl_imm aidxPt aidxStr aidxArr abound asliceStr asliceSl asliceArr abest anonil afill astore acells_nils acells_emp acells_imm acells_wr acells_wc acells_str acopy litAll amk as2b anil nilOf aseq aeqs aeqv fits fit1 hp_next hp_push hp_get hp_set List.length_cons List.length_nil List.getElem?_cons_zero List.getElem?_cons_succ List.cons_append List.nil_append List.append_nil List.take_succ_cons List.take_zero List.drop_succ_cons List.drop_zero List.all_cons List.all_nil Option.map_some Option.some.injEq Bool.and_true Bool.true_and Bool.false_eq_true if_true if_false ite_true ite_false Bool.and_self true_and and_true and_self Nat.zero_add Nat.le_refl Int.toNat_natCast beq_self_eq_true eq_self tops_zero tops_succ Int.natCast_nonneg List.take_nil List.drop_nil Option.map_none flat_bool one_bool cells_bool flat_int one_int cells_int flat_str one_str cells_str flat_nilp one_nilp cells_nilp flat_ptr one_ptr cells_ptr flat_nils one_nils cells_nils flat_imm one_imm cells_imm flat_wr one_wr cells_wr flat_wc one_wc cells_wc flat_func one_func cells_func flat_nilf one_nilf cells_nilf flat_map one_map cells_map flat_nilm one_nilm cells_nilm flat_iface one_iface cells_iface flat_nili one_nili cells_nili flat_rd one_rd cells_rd flat_emp one_emp cells_emp flat_byteV one_byteV cells_byteV flat_agg cells_agg one_agg B_size B_list B_ext B_toList B_app List.take_length Int.le_refl
section
variable {g : Ghost} {w w' : World} {H : AHeap}
end
section
variable {H : AHeap} {K : AV → AHeap → Prop} {id : Nat} {p v : AV}
end
end YtdknpnmdjjmapaaDoor.AL
end Go.Proofs

/- Builders told: what is written to them, and what they hold. -/
set_option linter.unusedVariables false
set_option linter.unusedSimpArgs false
set_option maxRecDepth 100000
set_option maxHeartbeats 16000000
namespace Go.Proofs.YtdknpnmdjjmapaaDoor.AL
open Go Go.Proofs
attribute [local go_sem] go_seq go_skip go_region go_regionN go_fregion rgF_some go_cond go_block go_exit go_ret nxt_nil nxt_code nxt_blk nxt_cut leave_nil leave_code leave_cut leave_blk rtn_nil rtn_code rtn_blk rtn_cut cnd_t cnd_f rgn_nil rgY_some rgY_none rgH_some rgP_some retTo_is rgV_func grd_und grd_tt grd_ff grd_tf grd_ft rgn_q rgn_alloc rgn_box rgn_store rgn_lit rgn_litw litCells_nil litCells_cons rgn_app rgn_copy rgn_mk rgn_s2b rgn_call rgn_callv rgn_stop rgn_slice3 aslice3 rgn_slice3l aslice3l rgn_appz rgn_clear rgn_range rgn_next arange acap rgn_put rgn_mkmap rgn_lookup rgn_mapup alookup_nilm alookup_map amapup_map afound_ok afound_no rgn_c rgn_cv qclV_func aloadr rgn_guard post_ret post_normal retY_some ares aresL ares1 AX.ev aput List.getD_cons_zero List.getD_cons_succ List.set_cons_zero List.set_cons_succ List.map_cons List.map_nil aq abin aint astr abeq aconv asame aextract alenS alenL_nils alenL_emp alenL_imm alenL_wr alenL_wc aun apart aload afieldAddr afield aidxSl_wr aidxSl_wc aidxSl_imm aidxPt aidxStr aidxArr abound asliceStr asliceSl asliceArr abest anonil afill astore acells_nils acells_emp acells_imm acells_wr acells_wc acells_str acopy litAll amk as2b anil nilOf aseq aeqs aeqv fits fit1 hp_next hp_push hp_get hp_set List.length_cons List.length_nil List.getElem?_cons_zero List.getElem?_cons_succ List.cons_append List.nil_append List.append_nil List.take_succ_cons List.take_zero List.drop_succ_cons List.drop_zero List.all_cons List.all_nil Option.map_some Option.some.injEq Bool.and_true Bool.true_and Bool.false_eq_true if_true if_false ite_true ite_false Bool.and_self true_and and_true and_self Nat.zero_add Nat.le_refl Int.toNat_natCast beq_self_eq_true eq_self tops_zero tops_succ Int.natCast_nonneg List.take_nil List.drop_nil Option.map_none flat_bool one_bool cells_bool flat_int one_int cells_int flat_str one_str cells_str flat_nilp one_nilp cells_nilp flat_ptr one_ptr cells_ptr flat_nils one_nils cells_nils flat_imm one_imm cells_imm flat_wr one_wr cells_wr flat_wc one_wc cells_wc flat_func one_func cells_func flat_nilf one_nilf cells_nilf flat_map one_map cells_map flat_nilm one_nilm cells_nilm flat_iface one_iface cells_iface flat_nili one_nili cells_nili flat_rd one_rd cells_rd flat_emp one_emp cells_emp flat_byteV one_byteV cells_byteV flat_agg cells_agg one_agg B_size B_list B_ext B_toList B_app List.take_length Int.le_refl
section
variable {H : AHeap} {K : AV → AHeap → Prop} {id n0 : Nat} {l s : List UInt8}
end
section
variable {H : AHeap} {K : AV → AHeap → Prop}
end
section
variable {H : AHeap} {K : AV → AHeap → Prop}
end
section
variable {H : AHeap} {K : AV → AHeap → Prop}
end
theorem TrOk_0 : TrOk tr0 := .mk [] 0 [] 0 [] (by simp) (by simp) (by simp) (by simp) (by simp)
section
variable {H : AHeap} {K : AV → AHeap → Prop}
theorem nindex_a {k : Nat} {ls : List Tr} {p : Tr → Bool} {f : Nat} {fs cs : List AV} (hn : ls.length ≤ 9223372036854775807)
    (hpp : ∀ x ∈ ls, ∀ K : AV → AHeap → Prop, K (.bool (p x)) H → (ACalls Tryd.prog) f (fs ++ [x.V] ++ cs) H K) (h : K (.int .i64 (ixOf p ls 0)) H) :
    (ACalls Tryd.prog) 42 [slA k 3 (ls.map Tr.V), .func (.func f) fs cs] H K := by
  refine acalls_go mo t42 (fun hs hu => ?_)
  simp only [c42, go_sem, Nat.reduceLeDiff, Nat.reduceAdd, Nat.reduceSub, Nat.reduceMul, Nat.reduceLT, Int.reduceLT, Int.reduceLE, Int.reduceAdd, Int.reduceSub, Int.reduceMul, Int.reduceToNat, Int.reduceNeg, Int.reduceEq, Nat.reducePow, Int.reducePow, Nat.reduceEqDiff, decide_true, decide_false, reduceIte, reduceCtorEq, Int.reduceBEq, Int.reduceBNe, bne_self_eq_false, Int.cast_ofNat_Int, Bool.not_true, Bool.not_false, IntKind.bits]
  refine stp0 ?_
  refine go_loopS mono (σ := Nat) (fun i => [(8, .int .i64 (i : Int))]) (fun i => hp H []) (fun i => i ≤ ls.length ∧ ixOf p (ls.drop i) i = ixOf p ls 0) (fun i => ls.length - i) 0 ?_ rfl ⟨by omega, rfl⟩ (fun i hi J hJ => ?_)
  · exact fgt
  obtain ⟨hil, hid⟩ := hi
  simp only [blurR_nil, blurR_some, blurR_none, blurC_region, blurC_regionN, blurC_fregion, blurT_nil, blurT_cons, blurC_seq, blurC_both, blurC_cond, blurC_block, blurC_loop, blurC_skip, blurC_exit, blurC_ret, tellS_nil, tellS_cons, List.set_cons_zero, List.set_cons_succ, tops_zero, tops_succ]
  by_cases h1 : i < ls.length
  · have ha := tr_at h1
    have hm := tr_mem h1
    rw [ixOf_drop p ls i tr0 h1] at hid
    generalize ls.getD i tr0 = x at *
    have hVc := Tr.V_cells x
    have hVi := Tr.V_is x
    refine stp (And.intro ha hVc) ?_
    rw [← hVi, hp_nil]
    refine hpp _ hm _ ?_
    rw [← hp_nil (H := H)]
    cases h2 : p x with
    | true =>
      rw [if_pos h2] at hid
      rw [← hid] at h
      refine stp0 ?_
      exact aret_u hs (h)
    | false =>
      rw [if_neg (by rw [h2]; exact Bool.false_ne_true)] at hid
      refine stp0 ?_
      exact hJ (i + 1) _ ⟨h1, hid⟩ (by omega) fgt
  · rw [List.drop_of_length_le (by omega)] at hid
    rw [← hid] at h
    refine stp0 ?_
    exact aret_u hs (h)
theorem kid1_a {id : Nat} {n : List UInt8} {x : Tr} (hg : H.get id = some (.row 9 0 [.str (B n)])) (h : K (.bool (nameIs n x)) H) : (ACalls Tryd.prog) 58 [x.V, .ptr id 0 0] H K := by
  refine acalls_go mo t58 (fun hs hu => ?_)
  have hlt := H.lt hg
  unfold nameIs at h
  simp only [c58, Tr.V_is, go_sem, Nat.reduceLeDiff, Nat.reduceAdd, Nat.reduceSub, Nat.reduceMul, Nat.reduceLT, Int.reduceLT, Int.reduceLE, Int.reduceAdd, Int.reduceSub, Int.reduceMul, Int.reduceToNat, Int.reduceNeg, Int.reduceEq, Nat.reducePow, Int.reducePow, Nat.reduceEqDiff, decide_true, decide_false, reduceIte, reduceCtorEq, Int.reduceBEq, Int.reduceBNe, bne_self_eq_false, Int.cast_ofNat_Int, Bool.not_true, Bool.not_false, IntKind.bits]
  refine stp (And.intro hg @B_toList) ?_
  exact aret_u hs (h)
theorem foundV_s (k : Tr) : foundV (some k) = .tup [.agg [.str (B k.name), slA k.kp 2 (k.props.map propV), slA k.kk 3 (k.kids.map Tr.V)], .bool true] := by
  rw [← Tr.V_is k]
  rfl
theorem foundV_n : foundV none = .tup [.agg [.str (B []), .nils, .nils], .bool false] := rfl
theorem Kid_a {t : Tr} (ho : TrOk t) {n : List UInt8} (h : K (foundV (kidT t n)) H) : (ACalls Tryd.prog) 38 [t.V, .str (B n)] H K := by
  refine acalls_go mo t38 (fun hs hu => ?_)
  have hkl := ho.k
  unfold kidT at h
  simp only [c38, Tr.V_is, go_sem, Nat.reduceLeDiff, Nat.reduceAdd, Nat.reduceSub, Nat.reduceMul, Nat.reduceLT, Int.reduceLT, Int.reduceLE, Int.reduceAdd, Int.reduceSub, Int.reduceMul, Int.reduceToNat, Int.reduceNeg, Int.reduceEq, Nat.reducePow, Int.reducePow, Nat.reduceEqDiff, decide_true, decide_false, reduceIte, reduceCtorEq, Int.reduceBEq, Int.reduceBNe, bne_self_eq_false, Int.cast_ofNat_Int, Bool.not_true, Bool.not_false, IntKind.bits]
  refine nindex_a (ls := t.kids) (p := nameIs n) hkl (fun x hx K hk => kid1_a (hp_get _ _ 1) hk) ?_
  rcases ixOf_find (nameIs n) tr0 t.kids 0 with ⟨h1, h2⟩ | ⟨j, h1, h2, h3⟩
  · rw [h1, foundV_n] at h
    rw [h2]
    refine stp @trRow_is ?_
    exact aret_plain hs (by simp only [u_top, u_bool, u_int, u_str, u_nilp, u_nils, u_nilf, u_nilm, u_nili, u_emp, u_byteV, u_ptr, u_wr, u_wc, u_agg, u_tup, u_rd, u_imm, u_func, u_nil, u_cons, u_app, uc_nil, uc_cons, uc_app, u_bytes, uc_bytes, u_ints, uc_ints, cells_bool, cells_int, cells_str, cells_agg, cells_ptr, cells_nils, cells_imm, cells_wr, cells_wc, cells_nilp, cells_nilf, cells_nilm, cells_rd, cells_emp, cells_byteV, cells_func, and_self, and_true, true_and, u_slA, uc_strs, cells_slA, strV_is]) h
  · have ha := tr_at h2
    rw [h3] at h
    rw [h1, Nat.zero_add]
    generalize t.kids.getD j tr0 = x at *
    rw [foundV_s] at h
    have hVc := Tr.V_cells x
    refine stp (And.intro ha hVc) ?_
    refine aret_plain hs ?_ h
    simp only [u_top, u_bool, u_int, u_str, u_nilp, u_nils, u_nilf, u_nilm, u_nili, u_emp, u_byteV, u_ptr, u_wr, u_wc, u_agg, u_tup, u_rd, u_imm, u_func, u_nil, u_cons, u_app, uc_nil, uc_cons, uc_app, u_bytes, uc_bytes, u_ints, uc_ints, cells_bool, cells_int, cells_str, cells_agg, cells_ptr, cells_nils, cells_imm, cells_wr, cells_wc, cells_nilp, cells_nilf, cells_nilm, cells_rd, cells_emp, cells_byteV, cells_func, and_self, and_true, true_and, u_slA, uc_strs, cells_slA, strV_is]
    exact ⟨props_u _ _, kids_u _ _⟩
def valV : Option (List UInt8) → AV
  | some v => .tup [.str (B v), .bool true]
  | none => .tup [.str (B []), .bool false]
theorem valV_is (x : Option (List UInt8)) : valV x = .tup [.str (B (x.getD [])), .bool x.isSome] := by cases x <;> rfl
theorem rValue_a {t : Tr} (ho : TrOk t) {n : List UInt8} (h : K (valV (valT t n)) H) : (ACalls Tryd.prog) 15 [t.V, .str (B n)] H K := by
  refine value_a ho ?_
  cases hv : valT t n with
  | none => rw [hv] at h; exact h
  | some v => rw [hv] at h; exact h
theorem Find_a {t : Tr} (ho : TrOk t) {p : List UInt8} (hl : p.length < 1073741824) (h : K (foundV (findT t p)) H) : (ACalls Tryd.prog) 45 [t.V, .str (B p)] H K := by
  refine acalls_go mo t45 (fun hs hu => ?_)
  have hno : findT t p = none → K (.tup [.agg [.str (B []), .nils, .nils], .bool false]) H := fun e => by
    rw [e] at h
    exact h
  have hyes : ∀ k, findT t p = some k → K (.tup [.agg [.str (B k.name), slA k.kp 2 (k.props.map propV), slA k.kk 3 (k.kids.map Tr.V)], .bool true]) H := fun k e => by
    rw [e, foundV_s] at h
    exact h
  clear h
  unfold findT at hno hyes
  simp only [c45, Tr.V_is, go_sem, Nat.reduceLeDiff, Nat.reduceAdd, Nat.reduceSub, Nat.reduceMul, Nat.reduceLT, Int.reduceLT, Int.reduceLE, Int.reduceAdd, Int.reduceSub, Int.reduceMul, Int.reduceToNat, Int.reduceNeg, Int.reduceEq, Nat.reducePow, Int.reducePow, Nat.reduceEqDiff, decide_true, decide_false, reduceIte, reduceCtorEq, Int.reduceBEq, Int.reduceBNe, bne_self_eq_false, Int.cast_ofNat_Int, Bool.not_true, Bool.not_false, IntKind.bits]
  refine Parts_a hl (fun kk => ?_)
  cases hp1 : partsP p with
  | none =>
    rw [hp1] at hno
    have := hno rfl
    rw [partsV_n]
    refine stp0 ?_
    refine go_rounds mono 1 ?_
    simp (maxSteps := 4000000) (disch := (first | omega | (simp only [set_next, List.length_append, List.length_cons, List.length_nil, List.length_take, List.length_drop, List.length_map, List.length_set, List.length_replicate]; omega) | (simp only [set_next, ne_eq, reduceCtorEq, not_false_eq_true]))) only [rnds_succ, go_sem, Nat.reduceLeDiff, Nat.reduceAdd, Nat.reduceSub, Nat.reduceMul, Nat.reduceLT, Int.reduceLT, Int.reduceLE, Int.reduceAdd, Int.reduceSub, Int.reduceMul, Int.reduceToNat, Int.reduceNeg, Int.reduceEq, Nat.reducePow, Int.reducePow, Nat.reduceEqDiff, decide_true, decide_false, reduceIte, reduceCtorEq, Int.reduceBEq, Int.reduceBNe, bne_self_eq_false, Int.cast_ofNat_Int, Bool.not_true, Bool.not_false, IntKind.bits, w_nat, w_lit, w_add, w_addl, w_ladd, w_sub, w_subl, w_lsub, w_mul, w_mull, w_lmul, t_div, t_divl, t_mod, t_modl, i_lt, i_ltl, i_llt, i_le, i_lel, i_lle, i_eq, i_eql, i_leq, Nat.zero_le, d_beq, d_bne, d_bytes, byte_at, Int.toNat_natCast, toNat_lit, decide_eq_true, decide_eq_false, if_pos, if_neg, slA_len, slA_idx, slA_cells, flat_slA, one_slA, cells_slA, map_mid, strV_is, hp_get1, hp_get2, hp_get3, hp_set1, hp_set2, hp_set3, hp_old, hp_sold, set_got, set_set, set_next, set_other, bytesL, bytes_all, List.length_map, aapp_nils, aapp_wr, List.flatMap_cons, List.flatMap_nil, Nat.mul_one]
    exact aret_plain hs (by simp only [u_top, u_bool, u_int, u_str, u_nilp, u_nils, u_nilf, u_nilm, u_nili, u_emp, u_byteV, u_ptr, u_wr, u_wc, u_agg, u_tup, u_rd, u_imm, u_func, u_nil, u_cons, u_app, uc_nil, uc_cons, uc_app, u_bytes, uc_bytes, u_ints, uc_ints, cells_bool, cells_int, cells_str, cells_agg, cells_ptr, cells_nils, cells_imm, cells_wr, cells_wc, cells_nilp, cells_nilf, cells_nilm, cells_rd, cells_emp, cells_byteV, cells_func, and_self, and_true, true_and, u_slA, uc_strs, cells_slA, strV_is]) this
  | some ns =>
    rw [hp1] at hno hyes
    simp only at hno hyes
    have hn8 := partsP_le hp1
    rw [partsV_s]
    refine stp0 ?_
    refine go_loopS mono (σ := Tr × Bool × Nat) (fun z => [(7, .bool z.2.1), (17, .int .i64 (z.2.2 : Int))]) (fun z => hp H [trRow z.1, trRow tr0]) (fun z => TrOk z.1 ∧ z.2.2 ≤ ns.length ∧ (z.2.1 = true → walkTo z.1 (ns.drop z.2.2) = walkTo t ns) ∧ (z.2.1 = false → walkTo t ns = none)) (fun z => ns.length - z.2.2) (t, true, 0) ?_ rfl ⟨ho, Nat.zero_le _, fun _ => rfl, fun e => by cases e⟩ (fun z hz J hJ => ?_)
    · exact fgt
    obtain ⟨cur, ok, i⟩ := z
    obtain ⟨hok, hil, hw1, hw2⟩ := hz
    simp only at hok hil hw1 hw2
    have hr0 : trRow tr0 = .row 25 0 [.str (B []), .nils, .nils] := rfl
    simp only [blurR_nil, blurR_some, blurR_none, blurC_region, blurC_regionN, blurC_fregion, blurT_nil, blurT_cons, blurC_seq, blurC_both, blurC_cond, blurC_block, blurC_loop, blurC_skip, blurC_exit, blurC_ret, tellS_nil, tellS_cons, List.set_cons_zero, List.set_cons_succ, tops_zero, tops_succ]
    by_cases h1 : i < ns.length
    · have ha := strs_at h1
      cases ok with
      | false =>
        refine stp ha ?_
        exact hJ (cur, false, i + 1) _ ⟨hok, h1, fun e => (by cases e), hw2⟩ (by show ns.length - (i + 1) < ns.length - i; omega) fgt
      | true =>
        have hw := hw1 rfl
        have hd : ns.drop i = ns.getD i [] :: ns.drop (i + 1) := by rw [List.drop_eq_getElem_cons h1, List.getD_eq_getElem?_getD, List.getElem?_eq_getElem h1]; rfl
        rw [hd, walkTo] at hw
        generalize ns.getD i [] = n at *
        have hVi := Tr.V_is cur
        simp (maxSteps := 4000000) (disch := (first | omega | (simp only [set_next, List.length_append, List.length_cons, List.length_nil, List.length_take, List.length_drop, List.length_map, List.length_set, List.length_replicate]; omega) | (simp only [set_next, ne_eq, reduceCtorEq, not_false_eq_true]))) only [ha, trRow_is cur, hr0, go_sem, Nat.reduceLeDiff, Nat.reduceAdd, Nat.reduceSub, Nat.reduceMul, Nat.reduceLT, Int.reduceLT, Int.reduceLE, Int.reduceAdd, Int.reduceSub, Int.reduceMul, Int.reduceToNat, Int.reduceNeg, Int.reduceEq, Nat.reducePow, Int.reducePow, Nat.reduceEqDiff, decide_true, decide_false, reduceIte, reduceCtorEq, Int.reduceBEq, Int.reduceBNe, bne_self_eq_false, Int.cast_ofNat_Int, Bool.not_true, Bool.not_false, IntKind.bits, w_nat, w_lit, w_add, w_addl, w_ladd, w_sub, w_subl, w_lsub, w_mul, w_mull, w_lmul, t_div, t_divl, t_mod, t_modl, i_lt, i_ltl, i_llt, i_le, i_lel, i_lle, i_eq, i_eql, i_leq, Nat.zero_le, d_beq, d_bne, d_bytes, byte_at, Int.toNat_natCast, toNat_lit, decide_eq_true, decide_eq_false, if_pos, if_neg, slA_len, slA_idx, slA_cells, flat_slA, one_slA, cells_slA, map_mid, strV_is, hp_get1, hp_get2, hp_get3, hp_set1, hp_set2, hp_set3, hp_old, hp_sold, set_got, set_set, set_next, set_other, bytesL, bytes_all, List.length_map, aapp_nils, aapp_wr, List.flatMap_cons, List.flatMap_nil, Nat.mul_one]
        rw [← hVi]
        refine Kid_a hok ?_
        cases hk : kidT cur n with
        | none =>
          rw [hk] at hw
          rw [foundV_n]
          refine stp0 ?_
          rw [← hr0]
          exact hJ (tr0, false, i + 1) _ ⟨TrOk_0, h1, fun e => (by cases e), fun _ => hw.symm⟩ (by show ns.length - (i + 1) < ns.length - i; omega) fgt
        | some k =>
          rw [hk] at hw
          simp only at hw
          have hko := kidT_ok hok hk
          rw [foundV_s]
          refine stp0 ?_
          rw [← hr0, ← trRow_is]
          exact hJ (k, true, i + 1) _ ⟨hko, h1, fun _ => hw, fun e => by cases e⟩ (by show ns.length - (i + 1) < ns.length - i; omega) fgt
    · cases ok with
      | false =>
        have := hno (hw2 rfl)
        simp (maxSteps := 4000000) (disch := (first | omega | (simp only [set_next, List.length_append, List.length_cons, List.length_nil, List.length_take, List.length_drop, List.length_map, List.length_set, List.length_replicate]; omega) | (simp only [set_next, ne_eq, reduceCtorEq, not_false_eq_true]))) only [trRow_is cur, hr0, go_sem, Nat.reduceLeDiff, Nat.reduceAdd, Nat.reduceSub, Nat.reduceMul, Nat.reduceLT, Int.reduceLT, Int.reduceLE, Int.reduceAdd, Int.reduceSub, Int.reduceMul, Int.reduceToNat, Int.reduceNeg, Int.reduceEq, Nat.reducePow, Int.reducePow, Nat.reduceEqDiff, decide_true, decide_false, reduceIte, reduceCtorEq, Int.reduceBEq, Int.reduceBNe, bne_self_eq_false, Int.cast_ofNat_Int, Bool.not_true, Bool.not_false, IntKind.bits, w_nat, w_lit, w_add, w_addl, w_ladd, w_sub, w_subl, w_lsub, w_mul, w_mull, w_lmul, t_div, t_divl, t_mod, t_modl, i_lt, i_ltl, i_llt, i_le, i_lel, i_lle, i_eq, i_eql, i_leq, Nat.zero_le, d_beq, d_bne, d_bytes, byte_at, Int.toNat_natCast, toNat_lit, decide_eq_true, decide_eq_false, if_pos, if_neg, slA_len, slA_idx, slA_cells, flat_slA, one_slA, cells_slA, map_mid, strV_is, hp_get1, hp_get2, hp_get3, hp_set1, hp_set2, hp_set3, hp_old, hp_sold, set_got, set_set, set_next, set_other, bytesL, bytes_all, List.length_map, aapp_nils, aapp_wr, List.flatMap_cons, List.flatMap_nil, Nat.mul_one]
        exact aret_plain hs (by simp only [u_top, u_bool, u_int, u_str, u_nilp, u_nils, u_nilf, u_nilm, u_nili, u_emp, u_byteV, u_ptr, u_wr, u_wc, u_agg, u_tup, u_rd, u_imm, u_func, u_nil, u_cons, u_app, uc_nil, uc_cons, uc_app, u_bytes, uc_bytes, u_ints, uc_ints, cells_bool, cells_int, cells_str, cells_agg, cells_ptr, cells_nils, cells_imm, cells_wr, cells_wc, cells_nilp, cells_nilf, cells_nilm, cells_rd, cells_emp, cells_byteV, cells_func, and_self, and_true, true_and, u_slA, uc_strs, cells_slA, strV_is]) this
      | true =>
        have hw := hw1 rfl
        rw [List.drop_of_length_le (by omega), walkTo] at hw
        have := hyes _ hw.symm
        simp (maxSteps := 4000000) (disch := (first | omega | (simp only [set_next, List.length_append, List.length_cons, List.length_nil, List.length_take, List.length_drop, List.length_map, List.length_set, List.length_replicate]; omega) | (simp only [set_next, ne_eq, reduceCtorEq, not_false_eq_true]))) only [trRow_is cur, hr0, go_sem, Nat.reduceLeDiff, Nat.reduceAdd, Nat.reduceSub, Nat.reduceMul, Nat.reduceLT, Int.reduceLT, Int.reduceLE, Int.reduceAdd, Int.reduceSub, Int.reduceMul, Int.reduceToNat, Int.reduceNeg, Int.reduceEq, Nat.reducePow, Int.reducePow, Nat.reduceEqDiff, decide_true, decide_false, reduceIte, reduceCtorEq, Int.reduceBEq, Int.reduceBNe, bne_self_eq_false, Int.cast_ofNat_Int, Bool.not_true, Bool.not_false, IntKind.bits, w_nat, w_lit, w_add, w_addl, w_ladd, w_sub, w_subl, w_lsub, w_mul, w_mull, w_lmul, t_div, t_divl, t_mod, t_modl, i_lt, i_ltl, i_llt, i_le, i_lel, i_lle, i_eq, i_eql, i_leq, Nat.zero_le, d_beq, d_bne, d_bytes, byte_at, Int.toNat_natCast, toNat_lit, decide_eq_true, decide_eq_false, if_pos, if_neg, slA_len, slA_idx, slA_cells, flat_slA, one_slA, cells_slA, map_mid, strV_is, hp_get1, hp_get2, hp_get3, hp_set1, hp_set2, hp_set3, hp_old, hp_sold, set_got, set_set, set_next, set_other, bytesL, bytes_all, List.length_map, aapp_nils, aapp_wr, List.flatMap_cons, List.flatMap_nil, Nat.mul_one]
        refine aret_plain hs ?_ this
        simp only [u_top, u_bool, u_int, u_str, u_nilp, u_nils, u_nilf, u_nilm, u_nili, u_emp, u_byteV, u_ptr, u_wr, u_wc, u_agg, u_tup, u_rd, u_imm, u_func, u_nil, u_cons, u_app, uc_nil, uc_cons, uc_app, u_bytes, uc_bytes, u_ints, uc_ints, cells_bool, cells_int, cells_str, cells_agg, cells_ptr, cells_nils, cells_imm, cells_wr, cells_wc, cells_nilp, cells_nilf, cells_nilm, cells_rd, cells_emp, cells_byteV, cells_func, and_self, and_true, true_and, u_slA, uc_strs, cells_slA, strV_is]
        exact ⟨props_u _ _, kids_u _ _⟩
end
theorem findT_ok {t k : Tr} {p : List UInt8} (ho : TrOk t) (h : findT t p = some k) : TrOk k := by
  unfold findT at h
  split at h
  · exact walkTo_ok ho h
  · cases h
theorem foundV_is (x : Option Tr) : foundV x = .tup [.agg [.str (B (x.getD tr0).name), slA (x.getD tr0).kp 2 ((x.getD tr0).props.map propV), slA (x.getD tr0).kk 3 ((x.getD tr0).kids.map Tr.V)], .bool x.isSome] := by
  cases x with
  | none => exact foundV_n
  | some k => exact foundV_s k
theorem getD_ok {x : Option Tr} (h : ∀ k, x = some k → TrOk k) : TrOk (x.getD tr0) := by
  cases x with
  | none => exact TrOk_0
  | some k => exact h k rfl
section
variable {H : AHeap} {K : AV → AHeap → Prop}
theorem join_sl {k : Nat} {ws : List (List UInt8)} {sep : List UInt8} (hN : ws.length ≤ 140737488355328) (hl : (Lib.join ws sep).length ≤ 140737488355328) (h : K (.str (B (Lib.join ws sep))) H) : (ACalls Tryd.prog) 62 [slA k 1 (ws.map strV), .str (B sep)] H K := by
  cases ws with
  | nil =>
    refine acalls_go mo t62 (fun hs hu => ?_)
    have h : K (.str (B [])) H := h
    simp only [c62, List.map_nil, go_sem, Nat.reduceLeDiff, Nat.reduceAdd, Nat.reduceSub, Nat.reduceMul, Nat.reduceLT, Int.reduceLT, Int.reduceLE, Int.reduceAdd, Int.reduceSub, Int.reduceMul, Int.reduceToNat, Int.reduceNeg, Int.reduceEq, Nat.reducePow, Int.reducePow, Nat.reduceEqDiff, decide_true, decide_false, reduceIte, reduceCtorEq, Int.reduceBEq, Int.reduceBNe, bne_self_eq_false, Int.cast_ofNat_Int, Bool.not_true, Bool.not_false, IntKind.bits]
    refine stp0 ?_
    exact aret_u hs (h)
  | cons w ws => exact join_a t62 (List.cons_ne_nil _ _) hN hl h
end
/-! ### trees that are handed in -/
theorem openAt_struct {P : Program} {t : TypeId} {fs : Array Field} {sz n : Nat} {Y : List AV → Prop} (hu : P.underlying t = some (.struct fs)) (hc : P.cellsOf t = sz) (h : FieldsAt P fs.toList 0 sz Y n) : OpenAt P t Y (n + 1) := by
  intro H enc W cs x hx
  obtain ⟨xs, m, hm, _, hl, hxl, hxs⟩ := DataW.trod_struct hu hx
  have hnm : n = m := by omega
  subst hnm
  obtain ⟨ys, ha, hw⟩ := h H enc W cs (fun f hf => by
    obtain ⟨i, hi⟩ := List.getElem?_of_mem hf
    have hi' : fs[i]? = some f := by simpa using hi
    have hlt : i < xs.length := by rw [hxl]; exact (Array.getElem?_eq_some_iff.1 hi').1
    exact ⟨xs[i], (hxs i f hi').trans (List.getElem?_eq_getElem hlt)⟩) (by omega)
  exact ⟨ys, ha, hw⟩
theorem openAt_zero {P : Program} {t : TypeId} {fs : Array Field} {Y : List AV → Prop} (hu : P.underlying t = some (.struct fs)) : OpenAt P t Y 0 := by
  intro H enc W cs x hx
  simp [DataW.trod] at hx
theorem openAt_mono {P : Program} {t : TypeId} {Y Y' : List AV → Prop} {n : Nat} (hw : ∀ a, Y a → Y' a) (h : OpenAt P t Y n) : OpenAt P t Y' n := by
  intro H enc W cs x hx
  obtain ⟨a, ha, hwa⟩ := h H enc W cs x hx
  exact ⟨a, ha, hw a hwa⟩
theorem openAt_zsl {P : Program} {t e : TypeId} {Y : List AV → Prop} (hu : P.underlying t = some (.slice e)) : OpenAt P t Y 0 := by
  intro H enc W cs x hx
  simp [DataW.trod] at hx
theorem openAt_slQ {P : Program} {t e : TypeId} {α : Type} {f : α → List AV} {g : α → AV} {Q : α → Prop} {Y : List AV → Prop} {sz n : Nat} (pk : List AV → AV) (hu : P.underlying t = some (.slice e)) (hc : P.cellsOf e = sz) (h0 : 0 < sz) (hY : ∀ ys, Y ys → ∃ a, Q a ∧ ys = f a) (hg : ∀ a, pk (f a) = g a) (hf : ∀ a, (g a).cells = f a) (h : OpenAt P e Y n) :
    OpenAt P t (fun zs => ∃ (k : Nat) (l : List α), zs = [slA k sz (l.map g)] ∧ l.length ≤ 9223372036854775807 ∧ ∀ a ∈ l, Q a) (n + 1) := by
  refine openAt_mono (fun zs hz => ?_) (openAt_slice pk hu hc h0 (fun ys hy => ?_) h)
  · rcases hz with rfl | rfl | ⟨xs, h1, h2, rfl, h3⟩
    · exact ⟨0, [], rfl, by simp, by simp⟩
    · exact ⟨1, [], rfl, by simp, by simp⟩
    · obtain ⟨l, hl, rfl⟩ := map_ofQ hY xs (fun ys hy => (h3 ys hy).1)
      refine ⟨2, l, ?_, by simpa using h2, hl⟩
      rw [List.map_map, show pk ∘ f = g from funext hg]
      cases l <;> rfl
  · obtain ⟨a, hq, rfl⟩ := hY ys hy
    rw [hg, hf]
def YStr (a : List AV) : Prop := ∃ s : ByteArray, s.size ≤ 9223372036854775807 ∧ a = [.str s]
def YPr (zs : List AV) : Prop := ∃ a a2 : List AV, zs = a ++ a2 ∧ YStr a ∧ YStr a2
def PrOk (p : List UInt8 × List UInt8) : Prop := p.1.length ≤ 9223372036854775807 ∧ p.2.length ≤ 9223372036854775807
theorem openPr : Opens Tryd.prog 62 YPr :=
  opens_struct (sz := 1 + 1) Tryd.underlying62 (by kernel_rfl) (fun n => fields_cons rfl (by kernel_rfl) (opens_str Tryd.underlying9 n) (fields_one rfl (by kernel_rfl) (opens_str Tryd.underlying9 n)))
def YPrs (zs : List AV) : Prop := ∃ (k : Nat) (l : List (List UInt8 × List UInt8)), zs = [slA k 2 (l.map propV)] ∧ l.length ≤ 9223372036854775807 ∧ ∀ p ∈ l, PrOk p
theorem openPrs : Opens Tryd.prog 22 YPrs :=
  opens_slQ (f := fun p => [.str (B p.1), .str (B p.2)]) (g := propV) (Q := PrOk) .agg Tryd.underlying22 (by kernel_rfl) (by decide) (fun ys hy => by
    obtain ⟨_, _, rfl, ⟨s, hs, rfl⟩, ⟨s2, hs2, rfl⟩⟩ := hy
    exact ⟨(s.data.toList, s2.data.toList), ⟨hs, hs2⟩, by simp [B_of]⟩) (fun _ => rfl) (fun _ => rfl) openPr
def YTr (zs : List AV) : Prop := ∃ t, TrOk t ∧ zs = t.cells
def YTrs (zs : List AV) : Prop := ∃ (k : Nat) (l : List Tr), zs = [slA k 3 (l.map Tr.V)] ∧ l.length ≤ 9223372036854775807 ∧ ∀ t ∈ l, TrOk t
theorem openAt_tr : ∀ n, OpenAt Tryd.prog 25 YTr n ∧ OpenAt Tryd.prog 23 YTrs n
  | 0 => ⟨openAt_zero Tryd.underlying25, openAt_zsl Tryd.underlying23⟩
  | n + 1 => by
    obtain ⟨ih1, ih2⟩ := openAt_tr n
    refine ⟨?_, ?_⟩
    · refine openAt_mono (fun zs hz => ?_) (openAt_struct (sz := 1 + (1 + 1)) Tryd.underlying25 (by kernel_rfl) (fields_cons rfl (by kernel_rfl) (opens_str Tryd.underlying9 n) (fields_cons rfl (by kernel_rfl) (openPrs n) (fields_one rfl (by kernel_rfl) ih2))))
      obtain ⟨_, _, rfl, ⟨s, hs, rfl⟩, _, _, rfl, ⟨kp, ps, rfl, hps, hpo⟩, ⟨kk, ks, rfl, hks, hko⟩⟩ := hz
      refine ⟨.mk s.data.toList kp ps kk ks, .mk _ _ _ _ _ hs hps hpo hks hko, ?_⟩
      rw [Tr.cells_is]
      rfl
    · exact openAt_slQ (f := Tr.cells) (g := Tr.V) (Q := TrOk) .agg Tryd.underlying23 (by kernel_rfl) (by decide) (fun ys hy => hy) (fun _ => rfl) (fun _ => rfl) ih1
theorem openTr : Opens Tryd.prog 25 YTr := fun n => (openAt_tr n).1
def joinPs (ls : List (List UInt8)) : List UInt8 := 47 :: Lib.join ls [47]
def accP (ls : List (List UInt8)) : List UInt8 := ls.flatMap fun s => 47 :: s
theorem accP_cons (s : List UInt8) (ls : List (List UInt8)) : accP (s :: ls) = 47 :: s ++ accP ls := rfl
theorem accP_tail : ∀ ls : List (List UInt8), accP ls = Lib.joinTail [47] ls
  | [] => rfl
  | s :: ls => by rw [accP_cons, accP_tail ls]; simp [Lib.joinTail]
theorem accP_join {ls : List (List UInt8)} (h : ls ≠ []) : accP ls = joinPs ls := by
  cases ls with
  | nil => cases h rfl
  | cons s ls =>
    unfold joinPs
    rw [accP_cons, Lib.join_cons, accP_tail]
    rfl
theorem accP_len {m : Nat} : ∀ ls : List (List UInt8), (∀ s ∈ ls, s.length ≤ m) → (accP ls).length ≤ ls.length * (m + 1)
  | [], _ => Nat.zero_le _
  | s :: ls, h => by
    have h1 := accP_len ls (fun x hx => h x (List.mem_cons_of_mem _ hx))
    have h2 := h s (List.mem_cons_self ..)
    rw [accP_cons, List.length_append, List.length_cons, List.length_cons, Nat.succ_mul]
    omega
theorem joinPs_len {m : Nat} {ls : List (List UInt8)} (h : ∀ s ∈ ls, s.length ≤ m) : (joinPs ls).length ≤ ls.length * (m + 1) + 1 := by
  by_cases h0 : ls = []
  · rw [h0]
    exact Nat.le_of_ble_eq_true (by rfl)
  · rw [← accP_join h0]
    have := accP_len ls h
    omega
section
variable {H : AHeap} {K : AV → AHeap → Prop}
theorem Join_a {k : Nat} {ls : List (List UInt8)} (hn : ls.length ≤ 65536) (hb : ∀ s ∈ ls, s.length ≤ 65536) (h : K (.str (B (joinPs ls))) H) : (ACalls Tryd.prog) 40 [slA k 1 (ls.map strV)] H K := by
  refine acalls_go mo t40 (fun hs hu => ?_)
  have hl := joinPs_len hb
  have hl2 : (Lib.join ls [47]).length + 1 = (joinPs ls).length := by unfold joinPs; rw [List.length_cons]
  have hm := Nat.mul_le_mul_right 65537 hn
  simp only [c40, go_sem, Nat.reduceLeDiff, Nat.reduceAdd, Nat.reduceSub, Nat.reduceMul, Nat.reduceLT, Int.reduceLT, Int.reduceLE, Int.reduceAdd, Int.reduceSub, Int.reduceMul, Int.reduceToNat, Int.reduceNeg, Int.reduceEq, Nat.reducePow, Int.reducePow, Nat.reduceEqDiff, decide_true, decide_false, reduceIte, reduceCtorEq, Int.reduceBEq, Int.reduceBNe, bne_self_eq_false, Int.cast_ofNat_Int, Bool.not_true, Bool.not_false, IntKind.bits]
  refine join_sl (by omega) (by omega) ?_
  have e : joinPs ls = [47] ++ Lib.join ls [47] := rfl
  rw [e] at h hl hl2
  generalize Lib.join ls [47] = j at *
  refine stp0 ?_
  exact aret_u hs (h)
end
section
variable {H : AHeap} {K : AV → AHeap → Prop}
end
end Go.Proofs.YtdknpnmdjjmapaaDoor.AL
