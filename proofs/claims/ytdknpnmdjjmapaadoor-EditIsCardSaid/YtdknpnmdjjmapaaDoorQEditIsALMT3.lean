/- Trees told: copied, into memory that may be changed. -/
import Derived.Test.YtdknpnmdjjmapaaDoorQEditIsALTree1
import Derived.Test.YtdknpnmdjjmapaaDoorQEditIsALA3
import Derived.Test.YtdknpnmdjjmapaaDoorProg
import Derived.KernelRfl
set_option linter.unusedSimpArgs false
set_option linter.unusedVariables false
set_option maxRecDepth 100000
set_option maxHeartbeats 16000000
namespace Go.Proofs.YtdknpnmdjjmapaaDoor.AL
open Go Go.Proofs
attribute [local go_sem] go_seq go_skip go_region go_regionN go_fregion rgF_some go_cond go_block go_exit go_ret nxt_nil nxt_code nxt_blk nxt_cut leave_nil leave_code leave_cut leave_blk rtn_nil rtn_code rtn_blk rtn_cut cnd_t cnd_f rgn_nil rgY_some rgY_none rgH_some rgP_some retTo_is rgV_func grd_und grd_tt grd_ff grd_tf grd_ft rgn_q rgn_alloc rgn_box rgn_store rgn_lit rgn_litw litCells_nil litCells_cons rgn_app rgn_copy rgn_mk rgn_s2b rgn_call rgn_callv rgn_stop rgn_slice3 aslice3 rgn_slice3l aslice3l rgn_appz rgn_clear rgn_range rgn_next arange acap rgn_put rgn_mkmap rgn_lookup rgn_mapup alookup_nilm alookup_map amapup_map afound_ok afound_no rgn_c rgn_cv qclV_func aloadr rgn_guard post_ret post_normal retY_some ares aresL ares1 AX.ev aput List.getD_cons_zero List.getD_cons_succ List.set_cons_zero List.set_cons_succ List.map_cons List.map_nil aq abin aint astr abeq aconv asame aextract alenS alenL_nils alenL_emp alenL_imm alenL_wr alenL_wc aun apart aload afieldAddr afield aidxSl_wr aidxSl_wc aidxSl_imm aidxPt aidxStr aidxArr abound asliceStr asliceSl asliceArr abest anonil afill astore acells_nils acells_emp acells_imm acells_wr acells_wc acells_str acopy litAll amk as2b anil nilOf aseq aeqs aeqv fits fit1 hp_next hp_push hp_get hp_set List.length_cons List.length_nil List.getElem?_cons_zero List.getElem?_cons_succ List.cons_append List.nil_append List.append_nil List.take_succ_cons List.take_zero List.drop_succ_cons List.drop_zero List.all_cons List.all_nil Option.map_some Option.some.injEq Bool.and_true Bool.true_and Bool.false_eq_true if_true if_false ite_true ite_false Bool.and_self true_and and_true and_self Nat.zero_add Nat.le_refl Int.toNat_natCast beq_self_eq_true eq_self tops_zero tops_succ Int.natCast_nonneg List.take_nil List.drop_nil Option.map_none flat_bool one_bool cells_bool flat_int one_int cells_int flat_str one_str cells_str flat_nilp one_nilp cells_nilp flat_ptr one_ptr cells_ptr flat_nils one_nils cells_nils flat_imm one_imm cells_imm flat_wr one_wr cells_wr flat_wc one_wc cells_wc flat_func one_func cells_func flat_nilf one_nilf cells_nilf flat_map one_map cells_map flat_nilm one_nilm cells_nilm flat_iface one_iface cells_iface flat_nili one_nili cells_nili flat_rd one_rd cells_rd flat_emp one_emp cells_emp flat_byteV one_byteV cells_byteV flat_agg cells_agg one_agg B_size B_list B_ext B_toList B_app List.take_length Int.le_refl
theorem props_one (l : List (List UInt8 × List UInt8)) : ((l.map propV).flatMap AV.cells).all AV.one = true := by
  rw [List.all_eq_true]
  intro c hc
  obtain ⟨x, hx, hcx⟩ := List.mem_flatMap.1 hc
  obtain ⟨p, _, rfl⟩ := List.mem_map.1 hx
  rw [propV_cells] at hcx
  simp only [List.mem_cons, List.mem_nil_iff, or_false] at hcx
  rcases hcx with rfl | rfl <;> rfl
theorem slat_app4 {n0 : Nat} {G : AHeap} {v : AV} {e sz b : Nat} {xs ys : List AV} (h : SlAt n0 G e sz v xs) (hn : n0 ≤ G.next) (hx : ∀ x ∈ xs, x.cells.length = sz) (h1 : (ys.flatMap AV.cells).all AV.one = true) (hb : (xs.length + ys.length) * b ≤ 140737488355328) (hw : G.within G.next) (hu2 : AllC G.next ys) :
    ∃ v' G', aapp e sz b G v (.imm sz ys) = some (v', hp G' []) ∧ SlAt n0 G' e sz v' (xs ++ ys) ∧ Grew n0 v G v' G' ∧ G'.within G'.next ∧ ∀ x, x < G.next → x ∉ rowId v → G'.get x = G.get x := by
  have hc : acells G sz (.imm sz ys) = some (ys.length, ys.flatMap AV.cells) := by simp only [acells, if_true]
  have hfy : AllU G.next (ys.flatMap AV.cells) := fun c hc => by
    obtain ⟨x, hx, hcx⟩ := List.mem_flatMap.1 hc
    exact hu2 x hx c hcx
  rcases h with ⟨rfl, rfl⟩ | ⟨id, gen, rfl, hid, hg⟩
  · rw [aapp_nils, hc]
    simp only [h1, if_true]
    by_cases hy : ys.length = 0
    · rw [if_pos hy]
      obtain rfl := List.length_eq_zero_iff.1 hy
      exact ⟨.nils, G, by rw [hp_nil], .inl ⟨rfl, rfl⟩, grew_refl, hw, fun _ _ _ => rfl⟩
    · rw [if_neg hy, if_pos (by simpa using hb)]
      refine ⟨.wr G.next 0 0 ys.length sz, G.push (.row e 0 (ys.flatMap AV.cells)), by rw [hp_nil], .inr ⟨G.next, 0, by simp, hn, ?_⟩, ⟨Nat.le_succ _, fun i hi => push_get_old _ _ _ (by omega), fun i o h _ => by rw [push_get_old _ _ _ (G.lt h)]; exact h, fun j hj _ gen off len sz e => ?_⟩, ?_, fun x hx _ => push_get_old _ _ _ hx⟩
      · rw [push_get_new]
        rfl
      · cases e
        omega
      · have hpush : G.push (.row e 0 (ys.flatMap AV.cells)) = hp G [.row e 0 (ys.flatMap AV.cells)] := by
          have := hp_push G [] (.row e 0 (ys.flatMap AV.cells))
          rw [hp_nil] at this
          exact this
        rw [hpush]
        refine within_hp2 hw (fun o ho => ?_)
        rw [List.mem_singleton] at ho
        subst ho
        exact fun c hc => up_under (Nat.le_succ _) (hfy c hc)
  · rw [aapp_wr, hc]
    simp only [h1, if_true, hg]
    rw [if_pos ⟨trivial, trivial, trivial, by rw [flat_length _ _ hx], hb⟩]
    refine ⟨.wr id (gen + 1) 0 (xs.length + ys.length) sz, G.set id (.row e (gen + 1) (xs.flatMap AV.cells ++ ys.flatMap AV.cells)), by rw [hp_nil], .inr ⟨id, gen + 1, by rw [List.length_append], hid, ?_⟩, ⟨Nat.le_refl _, fun i hi => set_get_ne _ _ _ _ (by omega), fun i o h hv => ?_, fun j hj hv gen2 off2 len2 sz2 e => ?_⟩, ?_, fun x hx hxv => set_get_ne _ _ _ _ (fun e => hxv (by rw [e]; exact List.mem_singleton.2 rfl))⟩
    · rw [set_got (G.lt hg), List.flatMap_append]
    · have : i ≠ id := fun h2 => hv _ _ _ _ (by rw [h2])
      rw [set_get_ne _ _ _ _ this]
      exact h
    · cases e
      exact hv _ _ _ _ rfl
    · refine within_set hw ?_
      rw [u_app]
      exact ⟨hw id _ (G.lt hg) hg, hfy⟩
section
variable {H : AHeap} {K : AV → AHeap → Prop}
theorem pclone_a {k : Nat} {l : List (List UInt8 × List UInt8)} (hn : l.length ≤ 1000000) (h : ∀ v G, SlAt H.next G 62 2 v (l.map propV) → Past H G → G.within G.next → K v G) : (ACalls Tryd.prog) 65 [slA k 2 (l.map propV)] H K := by
  refine acalls_go mo t65 (fun hs hu => ?_)
  have hrow : ∀ n, n = l.length → ARet H.next K (.wr (H.next + 0) 1 0 n 2) (hp H [.row 62 1 ((l.map propV).flatMap AV.cells)]) := by
    rintro n rfl
    have hw : (hp H [.row 62 1 ((l.map propV).flatMap AV.cells)]).within (hp H [.row 62 1 ((l.map propV).flatMap AV.cells)]).next := within_hp2 hs (fun o ho => by
      rw [List.mem_singleton] at ho
      subst ho
      intro c hc
      obtain ⟨x, hx, hcx⟩ := List.mem_flatMap.1 hc
      exact props_u _ l x hx c hcx)
    refine aret_full (Nat.le_add_right _ _) hw (.wr _ _ _ _ _ (by show H.next + 0 < H.next + 1; omega)) (h _ _ (.inr ⟨H.next + 0, 1, by rw [List.length_map], Nat.le_refl _, hp_get _ _ 0⟩) (past_hp past_refl _) hw)
  have hal := props_one l
  have hlen : (l.map propV).length = l.length := List.length_map _
  rcases slA_cases k 2 (l.map propV) with ⟨hk, hx⟩ | ⟨hk, hx⟩ | hk
  · simp only [c65, hk, go_sem, Nat.reduceLeDiff, Nat.reduceAdd, Nat.reduceSub, Nat.reduceMul, Nat.reduceLT, Int.reduceLT, Int.reduceLE, Int.reduceAdd, Int.reduceSub, Int.reduceMul, Int.reduceToNat, Int.reduceNeg, Int.reduceEq, Nat.reducePow, Int.reducePow, Nat.reduceEqDiff, decide_true, decide_false, reduceIte, reduceCtorEq, Int.reduceBEq, Int.reduceBNe, bne_self_eq_false, Int.cast_ofNat_Int, Bool.not_true, Bool.not_false, IntKind.bits]
    have h2 := h .nils H (by rw [hx]; exact slat_nil) past_refl hs
    rw [hp_nil]
    exact aret_full (Nat.le_refl _) hs .nils h2
  · have hl0 : l = [] := by simpa using hx
    subst hl0
    rw [List.map_nil] at hk
    simp only [c65, hk, go_sem, Nat.reduceLeDiff, Nat.reduceAdd, Nat.reduceSub, Nat.reduceMul, Nat.reduceLT, Int.reduceLT, Int.reduceLE, Int.reduceAdd, Int.reduceSub, Int.reduceMul, Int.reduceToNat, Int.reduceNeg, Int.reduceEq, Nat.reducePow, Int.reducePow, Nat.reduceEqDiff, decide_true, decide_false, reduceIte, reduceCtorEq, Int.reduceBEq, Int.reduceBNe, bne_self_eq_false, Int.cast_ofNat_Int, Bool.not_true, Bool.not_false, IntKind.bits]
    refine stp0 ?_
    exact hrow 0 rfl
  · simp only [c65, hk, go_sem, Nat.reduceLeDiff, Nat.reduceAdd, Nat.reduceSub, Nat.reduceMul, Nat.reduceLT, Int.reduceLT, Int.reduceLE, Int.reduceAdd, Int.reduceSub, Int.reduceMul, Int.reduceToNat, Int.reduceNeg, Int.reduceEq, Nat.reducePow, Int.reducePow, Nat.reduceEqDiff, decide_true, decide_false, reduceIte, reduceCtorEq, Int.reduceBEq, Int.reduceBNe, bne_self_eq_false, Int.cast_ofNat_Int, Bool.not_true, Bool.not_false, IntKind.bits]
    refine stp (And.intro hal hlen) ?_
    exact hrow _ rfl
/-- Sizes that a tree in memory has. -/
inductive TrB : Tr → Prop
  | mk (name : List UInt8) (kp : Nat) (props : List (List UInt8 × List UInt8)) (kk : Nat) (kids : List Tr) : props.length ≤ 1000000 → kids.length ≤ 1000000 → (∀ k ∈ kids, TrB k) → TrB (.mk name kp props kk kids)
end
theorem slat_live {n0 : Nat} {G : AHeap} {e sz : Nat} {v : AV} {xs : List AV} (h : SlAt n0 G e sz v xs) {i : Nat} (hi : i ∈ rowId v) : ∃ o, G.get i = some o := by
  rcases h with ⟨rfl, _⟩ | ⟨id, gen, rfl, q2, q3⟩
  · cases hi
  · rw [List.mem_singleton.1 (show i ∈ [id] from hi)]
    exact ⟨_, q3⟩
theorem mt_live {G : AHeap} {cs : List AV} {t : Tr} {F : List Nat} (h : MT G cs t F) : ∀ i ∈ F, ∃ o, G.get i = some o := by
  induction h with
  | mk name vp vk ps css ks fps h1 h2 h3 h4 _ ih =>
    intro i hi
    rcases List.mem_append.1 hi with q | q
    · rcases List.mem_append.1 q with q | q
      · exact slat_live h1 q
      · exact slat_live h2 q
    · obtain ⟨f, hf, hif⟩ := List.mem_flatten.1 q
      obtain ⟨j, hj, rfl⟩ := List.getElem_of_mem hf
      exact ih j (by omega) i (by rw [List.getD_eq_getElem?_getD, List.getElem?_eq_getElem hj]; exact hif)
theorem rowId_wr {v : AV} {i : Nat} (hi : i ∉ rowId v) : ∀ gen off len sz, v ≠ .wr i gen off len sz := fun gen off len sz e => by
  rw [e] at hi
  exact hi (List.mem_singleton.2 rfl)
theorem rowId_of {v : AV} {i : Nat} (hi : i ∈ rowId v) : ∃ gen off len sz, v = .wr i gen off len sz := by
  cases v <;> simp [rowId] at hi
  subst hi
  exact ⟨_, _, _, _, rfl⟩
theorem rowId_nodup (v : AV) : (rowId v).Nodup := by
  cases v <;> simp [rowId]
theorem mem_fl {fps : List (List Nat)} {x : Nat} (h : x ∈ fps.flatten) : ∃ j, j < fps.length ∧ x ∈ fps.getD j [] := by
  obtain ⟨f, hf, hx⟩ := List.mem_flatten.1 h
  obtain ⟨j, hj, rfl⟩ := List.getElem_of_mem hf
  exact ⟨j, hj, by rw [List.getD_eq_getElem?_getD, List.getElem?_eq_getElem hj]; exact hx⟩
/-- A copy under way: the node's own cells, and those of its kids so far. -/
structure CpInv (H : AHeap) (r3 : Nat) (name : List UInt8) (vp : AV) (ps : List (List UInt8 × List UInt8)) (ks : List Tr) (G : AHeap) (vk : AV) (css : List (List AV)) (fps : List (List Nat)) (i : Nat) : Prop where
  past : Past H G
  wit : G.within G.next
  row : G.get r3 = some (.row 25 0 [.str (B name), vp, vk])
  res : G.get (H.next + 1) = some (.row 25 0 [.str (B []), .nils, .nils])
  pr : SlAt (H.next + 2) G 62 2 vp (ps.map propV)
  kd : SlAt (r3 + 1) G 25 3 vk (css.map AV.agg)
  lc : css.length = i
  lf : fps.length = i
  le : i ≤ ks.length
  kids : ∀ j, j < i → MT G (css.getD j []) ((ks.getD j tr0).strip) (fps.getD j [])
  nd : (rowId vk ++ fps.flatten).Nodup
  ge : ∀ x ∈ rowId vk ++ fps.flatten, r3 + 1 ≤ x
  vpl : ∀ x ∈ rowId vp, x < r3
  hr3 : H.next + 2 ≤ r3
theorem cp_step {H : AHeap} {r3 : Nat} {name : List UInt8} {vp : AV} {ps : List (List UInt8 × List UInt8)} {ks : List Tr} {G Gq G' : AHeap} {vk : AV} {css : List (List AV)} {fps : List (List Nat)} {i : Nat} {cs : List AV} {F : List Nat}
    (hI : CpInv H r3 name vp ps ks G vk css fps i) (hi : i < ks.length) (hkb : ks.length ≤ 1000000) (hq : Past G Gq) (hP : Past Gq G') (hm : MT G' cs (ks.getD i tr0).strip F) (hnd : F.Nodup) (hge : ∀ x ∈ F, Gq.next ≤ x) (hw : G'.within G'.next) :
    ∃ v3 G4, aapp 25 3 64 (hp G' []) vk (.imm 3 [.agg cs]) = some (v3, hp G4 []) ∧ G4.get r3 = some (.row 25 0 [.str (B name), vp, vk]) ∧ (v3.flat = true ∧ v3.cells = [v3] ∧ v3.one = true) ∧
      CpInv H r3 name vp ps ks (G4.set r3 (.row 25 0 [.str (B name), vp, v3])) v3 (css ++ [cs]) (fps ++ [F]) (i + 1) := by
  obtain ⟨h1, h2, h3, h4, h5, h6, h7, h8, h9, h10, h11, h12, h13, h14⟩ := hI
  have PG : Past G G' := past_trans hq hP
  have hl3 := G.lt h3
  obtain ⟨a, b, rfl, ⟨a1, a2, a3, a4⟩, b1, b2, b3, b4⟩ := mt_cs hm
  have hone : ([AV.agg [.str (B (ks.getD i tr0).strip.name), a, b]].flatMap AV.cells).all AV.one = true := by
    simp only [List.flatMap_cons, List.flatMap_nil, List.append_nil]
    show ([AV.str (B (ks.getD i tr0).strip.name), a, b]).all AV.one = true
    simp only [List.all_cons, List.all_nil, a3, b3]
    rfl
  have hks' : SlAt (r3 + 1) G' 25 3 vk (css.map AV.agg) := slat_same h6 (fun x hx => PG.get x (rowId_lt h6 hx).1)
  have hclen : ∀ x ∈ css.map AV.agg, x.cells.length = 3 := fun x hx => by
    obtain ⟨c, hc, rfl⟩ := List.mem_map.1 hx
    obtain ⟨j, hj, rfl⟩ := List.getElem_of_mem hc
    have := h10 j (by omega)
    rw [List.getD_eq_getElem?_getD, List.getElem?_eq_getElem hj] at this
    obtain ⟨_, _, e, _⟩ := mt_cs this
    rw [show (some css[j]).getD [] = css[j] from rfl] at e
    show css[j].length = 3
    rw [e]
    rfl
  obtain ⟨v3, G4, hE, hv3, hgr, hw4, _⟩ := slat_app4 (G := hp G' []) (b := 64) (ys := [.agg [.str (B (ks.getD i tr0).strip.name), a, b]]) (slat_hp hks' []) (by rw [hp_nil]; have := PG.next; omega) hclen hone (by simp only [List.length_map, List.length_singleton]; omega) (by rw [hp_nil]; exact hw) (fun x hx c hc => by
    rw [List.mem_singleton] at hx
    subst hx
    have hc : c ∈ [AV.str (B (ks.getD i tr0).strip.name), a, b] := hc
    rw [hp_nil]
    simp only [List.mem_cons, List.mem_nil_iff, or_false] at hc
    rcases hc with rfl | rfl | rfl
    · exact .str _
    · exact a4
    · exact b4)
  rw [hp_nil] at hgr
  have hr4 : G4.get r3 = some (.row 25 0 [.str (B name), vp, vk]) := (hgr.old r3 (by omega)).trans ((PG.get r3 hl3).trans h3)
  have hmap : css.map AV.agg ++ [AV.agg [.str (B (ks.getD i tr0).strip.name), a, b]] = (css ++ [[.str (B (ks.getD i tr0).strip.name), a, b]]).map AV.agg := by rw [List.map_append]; rfl
  rw [hmap] at hv3
  obtain ⟨f1, f2, f3, f4⟩ := slat_one2 hv3
  have hid3 : ∀ x ∈ rowId v3, x ∈ rowId vk ∨ G'.next ≤ x := fun x hx => by
    by_cases hxn : x < G'.next
    · refine .inl (Decidable.byContradiction fun hc => ?_)
      obtain ⟨gen, off, len, sz, e⟩ := rowId_of hx
      exact hgr.id x hxn (rowId_wr hc) gen off len sz e
    · exact .inr (by omega)
  have hkeep : ∀ x, x ∉ rowId vk → x ≠ r3 → (∃ o, G'.get x = some o) → (G4.set r3 (.row 25 0 [.str (B name), vp, v3])).get x = G'.get x := fun x hx hx3 ⟨o, ho⟩ => by
    rw [set_other hx3, ho]
    exact hgr.other x o ho (rowId_wr hx)
  have hfl : ∀ x ∈ fps.flatten, x < G.next ∧ x ∉ rowId vk ∧ r3 + 1 ≤ x := fun x hx => by
    obtain ⟨j, hj, hxj⟩ := mem_fl hx
    exact ⟨mt_lt (h10 j (by omega)) x hxj, fun q => (List.nodup_append.1 h11).2.2 x q x hx rfl, h12 x (List.mem_append_right _ hx)⟩
  have hF : ∀ x ∈ F, x ∉ rowId vk ∧ r3 + 1 ≤ x ∧ x < G'.next ∧ x ∉ fps.flatten := fun x hx => by
    have g1 := hge x hx
    have g2 := hq.next
    exact ⟨fun q => by have := (rowId_lt h6 q).1; omega, by omega, mt_lt hm x hx, fun q => by have := (hfl x q).1; omega⟩
  refine ⟨v3, G4, hE, hr4, ⟨f1, f2, f3⟩, ?_, ?_, set_got (G4.lt hr4), ?_, ?_, ?_, by rw [List.length_append, h7]; rfl, by rw [List.length_append, h8]; rfl, hi, fun j hj => ?_, ?_, fun x hx => ?_, h13, h14⟩
  · have hPn := h1.next
    have hPg := PG.next
    have := hgr.next
    exact past_set ⟨by omega, fun x hx => (hgr.old x (by omega)).trans ((PG.get x (by omega)).trans (h1.get x hx))⟩ (by omega) _
  · refine within_set hw4 (fun c hc => ?_)
    have := h2 r3 _ hl3 h3
    simp only [List.mem_cons, List.mem_nil_iff, or_false] at hc
    rcases hc with rfl | rfl | rfl
    · exact .str _
    · exact (slat_one2 (slat_same h5 (G' := G4) (fun x hx => (hgr.old x (by have := h13 x hx; omega)).trans (PG.get x (by have := h13 x hx; omega))))).2.2.2
    · exact f4
  · rw [set_other (by omega)]
    exact (hgr.old _ (by omega)).trans ((PG.get _ (by omega)).trans h4)
  · exact slat_same h5 (fun x hx => by
      have := h13 x hx
      rw [set_other (by omega)]
      exact (hgr.old x (by omega)).trans (PG.get x (by omega)))
  · exact slat_same hv3 (fun x hx => set_other (fun e => by
      have := (rowId_lt hv3 hx).2
      omega))
  · by_cases hji : j = i
    · subst hji
      have e1 : (css ++ [[AV.str (B (ks.getD j tr0).strip.name), a, b]]).getD j [] = [AV.str (B (ks.getD j tr0).strip.name), a, b] := by
        rw [List.getD_eq_getElem?_getD, List.getElem?_append_right (by omega), h7, Nat.sub_self]
        rfl
      have e2 : (fps ++ [F]).getD j [] = F := by
        rw [List.getD_eq_getElem?_getD, List.getElem?_append_right (by omega), h8, Nat.sub_self]
        rfl
      rw [e1, e2]
      exact mt_same hm (fun x hx => hkeep x (hF x hx).1 (by have := (hF x hx).2.1; omega) (mt_live hm x hx))
    · have hlt : j < i := by omega
      have e1 : (css ++ [[AV.str (B (ks.getD i tr0).strip.name), a, b]]).getD j [] = css.getD j [] := by
        rw [List.getD_eq_getElem?_getD, List.getElem?_append_left (by omega), List.getD_eq_getElem?_getD]
      have e2 : (fps ++ [F]).getD j [] = fps.getD j [] := by
        rw [List.getD_eq_getElem?_getD, List.getElem?_append_left (by omega), List.getD_eq_getElem?_getD]
      rw [e1, e2]
      have hmj := h10 j hlt
      refine mt_same hmj (fun x hx => ?_)
      obtain ⟨g1, g2, g3⟩ := hfl x (mem_fps hx)
      have e3 := PG.get x g1
      obtain ⟨o, ho⟩ := mt_live hmj x hx
      rw [hkeep x g2 (by omega) ⟨o, e3.trans ho⟩, e3]
  · rw [List.flatten_append, List.nodup_append]
    refine ⟨rowId_nodup v3, ?_, fun x hx y hy e => ?_⟩
    · rw [List.nodup_append]
      refine ⟨(List.nodup_append.1 h11).2.1, by simpa using hnd, fun x hx y hy e => ?_⟩
      have hy : y ∈ F := by simpa using hy
      rw [← e] at hy
      exact (hF x hy).2.2.2 hx
    · subst e
      rcases List.mem_append.1 hy with q | q
      · obtain ⟨g1, g2, _⟩ := hfl x q
        have := PG.next
        rcases hid3 x hx with g | g
        · exact g2 g
        · omega
      · have hq2 : x ∈ F := by simpa using q
        obtain ⟨g1, g2, g3, _⟩ := hF x hq2
        rcases hid3 x hx with g | g
        · exact g1 g
        · omega
  · rw [List.flatten_append] at hx
    rcases List.mem_append.1 hx with q | q
    · exact (rowId_lt hv3 q).2
    · rcases List.mem_append.1 q with q | q
      · exact (hfl x q).2.2
      · exact (hF x (by simpa using q)).2.1
theorem Copy_a : ∀ (n : Nat) (t : Tr), SizeOf.sizeOf t ≤ n → TrB t → ∀ (H : AHeap) (K : AV → AHeap → Prop), (∀ cs G F, MT G cs t.strip F → F.Nodup → (∀ i ∈ F, H.next ≤ i) → Past H G → G.within G.next → K (.agg cs) G) → (ACalls Tryd.prog) 47 [t.V] H K
  | 0, t, hn, hb, H, K, h => by
    exfalso
    cases t
    simp at hn
  | n + 1, t, hn, hb, H, K, h => by
    cases hb with
    | mk name kp ps kk ks hb1 hb2 hb3 =>
    refine acalls_go mo t47 (fun hs hu => ?_)
    have hV : Tr.V (.mk name kp ps kk ks) = .agg [.str (B name), slA kp 2 (ps.map propV), slA kk 3 (ks.map Tr.V)] := Tr.V_is _
    simp only [c47, hV, go_sem, Nat.reduceLeDiff, Nat.reduceAdd, Nat.reduceSub, Nat.reduceMul, Nat.reduceLT, Int.reduceLT, Int.reduceLE, Int.reduceAdd, Int.reduceSub, Int.reduceMul, Int.reduceToNat, Int.reduceNeg, Int.reduceEq, Nat.reducePow, Int.reducePow, Nat.reduceEqDiff, decide_true, decide_false, reduceIte, reduceCtorEq, Int.reduceBEq, Int.reduceBNe, bne_self_eq_false, Int.cast_ofNat_Int, Bool.not_true, Bool.not_false, IntKind.bits]
    rw [frz_one (t := 1) rfl (hp_get _ _ 0)]
    have hnk : ((hp H [.row 25 0 [.str (B name), slA kp 2 (ps.map propV), slA kk 3 (ks.map Tr.V)], .row 25 0 [.str (B []), .nils, .nils]]).kill (H.next + 0)).next = H.next + 2 := rfl
    have hPk : Past H ((hp H [.row 25 0 [.str (B name), slA kp 2 (ps.map propV), slA kk 3 (ks.map Tr.V)], .row 25 0 [.str (B []), .nils, .nils]]).kill (H.next + 0)) := past_kill (past_hp past_refl _) (by omega)
    have hr2 : ((hp H [.row 25 0 [.str (B name), slA kp 2 (ps.map propV), slA kk 3 (ks.map Tr.V)], .row 25 0 [.str (B []), .nils, .nils]]).kill (H.next + 0)).get (H.next + 1) = some (.row 25 0 [.str (B []), .nils, .nils]) := (kill_get_ne _ _ _ (by omega)).trans (hp_get _ _ 1)
    generalize (hp H [.row 25 0 [.str (B name), slA kp 2 (ps.map propV), slA kk 3 (ks.map Tr.V)], .row 25 0 [.str (B []), .nils, .nils]]).kill (H.next + 0) = Gk at *
    rw [← hp_nil (H := Gk)]
    refine stp0 ?_
    refine pclone_a (by omega) (fun vp G1 hvp hG1 hw1 => ?_)
    rw [hp_nil] at hvp hG1
    rw [hnk] at hvp
    obtain ⟨p1, p2, p3, p4⟩ := slat_one2 hvp
    have hn1 : H.next + 2 ≤ G1.next := by have := hG1.next; omega
    rw [← hp_nil (H := G1)]
    refine stp (And.intro p1 (And.intro p2 p3)) ?_
    have hinit : CpInv H (G1.next + 0) name vp ps ks (hp G1 [.row 25 0 [.str (B name), vp, .nils]]) .nils [] [] 0 := by
      refine ⟨past_trans hPk (past_hp hG1 _), within_hp2 hw1 (fun o ho => ?_), hp_get _ _ 0, (hp_old (by omega)).trans ((hG1.get _ (by omega)).trans hr2), slat_hp hvp _, slat_nil, rfl, rfl, Nat.zero_le _, (fun j hj => absurd hj (Nat.not_lt_zero _)), .nil, (fun x hx => by cases hx), (fun x hx => (rowId_lt hvp hx).1), hn1⟩
      rw [List.mem_singleton] at ho
      subst ho
      intro c hc
      simp only [List.mem_cons, List.mem_nil_iff, or_false] at hc
      rcases hc with rfl | rfl | rfl
      · exact .str _
      · exact up_under (Nat.le_add_right _ _) p4
      · exact .nils
    refine go_loopS mono (σ := AHeap × AV × List (List AV) × List (List Nat) × Nat) (fun z => [(15, .int .i64 (z.2.2.2.2 : Int))]) (fun z => hp z.1 []) (fun z => CpInv H (G1.next + 0) name vp ps ks z.1 z.2.1 z.2.2.1 z.2.2.2.1 z.2.2.2.2) (fun z => ks.length - z.2.2.2.2) (hp G1 [.row 25 0 [.str (B name), vp, .nils]], .nils, [], [], 0) ?_ (by rw [hp_nil]) hinit (fun z hz J hJ => ?_)
    · exact fgt
    obtain ⟨G, vk, css, fps, i⟩ := z
    have hI : CpInv H (G1.next + 0) name vp ps ks G vk css fps i := hz
    clear hz hinit
    have hr3 := hI.row
    have hl3 := G.lt hr3
    simp only [blurR_nil, blurR_some, blurR_none, blurC_region, blurC_regionN, blurC_fregion, blurT_nil, blurT_cons, blurC_seq, blurC_both, blurC_cond, blurC_block, blurC_loop, blurC_skip, blurC_exit, blurC_ret, tellS_nil, tellS_cons, List.set_cons_zero, List.set_cons_succ, tops_zero, tops_succ]
    by_cases d1 : i < ks.length
    · have ha := tr_at d1
      have hsz : SizeOf.sizeOf (ks.getD i tr0) < SizeOf.sizeOf ks := List.sizeOf_lt_of_mem (tr_mem d1)
      have hsz2 : SizeOf.sizeOf ks < SizeOf.sizeOf (Tr.mk name kp ps kk ks) := by simp; omega
      have hbk := hb3 _ (tr_mem d1)
      have hJ2 := fun (G2 : AHeap) (v2 : AV) (css2 : List (List AV)) (fps2 : List (List Nat)) (p : CpInv H (G1.next + 0) name vp ps ks G2 v2 css2 fps2 (i + 1)) a' => hJ (G2, v2, css2, fps2, i + 1) a' p (by show ks.length - (i + 1) < ks.length - i; omega)
      clear hJ
      have hst := fun {Gq G' cs F} => cp_step (Gq := Gq) (G' := G') (cs := cs) (F := F) hI d1 hb2
      generalize ks.getD i tr0 = kd at *
      have hVk := Tr.V_is kd
      simp (maxSteps := 4000000) (disch := (first | omega | (simp only [set_next, List.length_append, List.length_cons, List.length_nil, List.length_take, List.length_drop, List.length_map, List.length_set, List.length_replicate]; omega) | (simp only [set_next, ne_eq, reduceCtorEq, not_false_eq_true]))) only [ha, Tr.V_cells, go_sem, Nat.reduceLeDiff, Nat.reduceAdd, Nat.reduceSub, Nat.reduceMul, Nat.reduceLT, Int.reduceLT, Int.reduceLE, Int.reduceAdd, Int.reduceSub, Int.reduceMul, Int.reduceToNat, Int.reduceNeg, Int.reduceEq, Nat.reducePow, Int.reducePow, Nat.reduceEqDiff, decide_true, decide_false, reduceIte, reduceCtorEq, Int.reduceBEq, Int.reduceBNe, bne_self_eq_false, Int.cast_ofNat_Int, Bool.not_true, Bool.not_false, IntKind.bits, w_nat, w_lit, w_add, w_addl, w_ladd, w_sub, w_subl, w_lsub, w_mul, w_mull, w_lmul, t_div, t_divl, t_mod, t_modl, i_lt, i_ltl, i_llt, i_le, i_lel, i_lle, i_eq, i_eql, i_leq, Nat.zero_le, d_beq, d_bne, d_bytes, byte_at, Int.toNat_natCast, toNat_lit, decide_eq_true, decide_eq_false, if_pos, if_neg, slA_len, slA_idx, slA_cells, flat_slA, one_slA, cells_slA, map_mid, strV_is, hp_get1, hp_get2, hp_get3, hp_set1, hp_set2, hp_set3, hp_old, hp_sold, set_got, set_set, set_next, set_other, bytesL, bytes_all, List.length_map, aapp_nils, aapp_wr, List.flatMap_cons, List.flatMap_nil, Nat.mul_one]
      rw [frz_one (t := 5) rfl (hp_get _ _ 0)]
      have hPq : Past G ((hp G [.row 25 0 [.str (B kd.name), slA kd.kp 2 (kd.props.map propV), slA kd.kk 3 (kd.kids.map Tr.V)]]).kill (G.next + 0)) := past_kill (past_hp past_refl _) (by omega)
      generalize (hp G [.row 25 0 [.str (B kd.name), slA kd.kp 2 (kd.props.map propV), slA kd.kk 3 (kd.kids.map Tr.V)]]).kill (G.next + 0) = Gq at *
      have hr3q : Gq.get (G1.next + 0) = _ := (hPq.get _ hl3).trans hr3
      have hl3q := Gq.lt hr3q
      rw [← hp_nil (H := Gq)]
      refine stp0 ?_
      rw [go_both]
      refine ⟨?_, ?_⟩
      · refine stp hr3q ?_
        rw [← hVk]
        refine Copy_a n kd (by omega) hbk _ _ (fun cs G' F hm hnd hge hP hw => ?_)
        rw [hp_nil] at hge hP
        obtain ⟨v3, G4, hE, hr4, ⟨f1, f2, f3⟩, hN⟩ := hst hPq hP hm hnd hge hw
        obtain ⟨a, b, rfl, ⟨a1, a2, a3, _⟩, b1, b2, b3, _⟩ := mt_cs hm
        have hl4 := G4.lt hr4
        rw [← hp_nil (H := G')]
        refine stp (And.intro a1 (And.intro a2 (And.intro a3 (And.intro b1 (And.intro b2 (And.intro b3 (And.intro hE (And.intro hr4 (And.intro f1 (And.intro f2 f3)))))))))) ?_
        exact hJ2 _ v3 _ _ hN _ fgt
      · refine stp0 ?_
        rw [← hVk]
        refine Copy_a n kd (by omega) hbk _ _ (fun cs G' F hm hnd hge hP hw => ?_)
        rw [hp_nil] at hge hP
        obtain ⟨v3, G4, hE, hr4, ⟨f1, f2, f3⟩, hN⟩ := hst hPq hP hm hnd hge hw
        obtain ⟨a, b, rfl, ⟨a1, a2, a3, _⟩, b1, b2, b3, _⟩ := mt_cs hm
        have hl4 := G4.lt hr4
        have hr3g : G'.get (G1.next + 0) = _ := (hP.get _ hl3q).trans hr3q
        have hl3g := G'.lt hr3g
        rw [← hp_nil (H := G')]
        refine stp (And.intro hr3g (And.intro a1 (And.intro a2 (And.intro a3 (And.intro b1 (And.intro b2 (And.intro b3 (And.intro hE (And.intro hr4 (And.intro f1 (And.intro f2 f3))))))))))) ?_
        exact hJ2 _ v3 _ _ hN _ fgt
    · obtain ⟨h1, h2, h3, h4, h5, h6, h7, h8, h9, h10, h11, h12, h13, h14⟩ := hI
      have hi : i = ks.length := by omega
      subst hi
      have hl4 := G.lt h4
      obtain ⟨q1, q2, q3, q4⟩ := slat_one2 h5
      obtain ⟨r1, r2, r3, r4⟩ := slat_one2 h6
      refine stp (And.intro h3 (And.intro h4 (And.intro q1 (And.intro q2 (And.intro q3 (And.intro r1 (And.intro r2 r3))))))) ?_
      rw [hp_nil]
      have hw' : (G.set (H.next + 1) (.row 25 0 [.str (B name), vp, vk])).within G.next := within_set h2 (fun c hc => by
        simp only [List.mem_cons, List.mem_nil_iff, or_false] at hc
        rcases hc with rfl | rfl | rfl
        · exact .str _
        · exact q4
        · exact r4)
      have ho : ∀ x, H.next + 2 ≤ x → (G.set (H.next + 1) (.row 25 0 [.str (B name), vp, vk])).get x = G.get x := fun x hx => set_other (by omega)
      have hfl : ∀ x ∈ fps.flatten, G1.next + 0 + 1 ≤ x := fun x hx => h12 x (List.mem_append_right _ hx)
      refine aret_full (G := G.set (H.next + 1) (.row 25 0 [.str (B name), vp, vk])) h1.next hw' ?_ (h _ _ (rowId vp ++ rowId vk ++ fps.flatten) ?_ ?_ (fun x hx => ?_) (past_set h1 (by omega) _) hw')
      · rw [u_agg]
        simp only [u_cons, u_nil, u_str, true_and, and_true]
        exact ⟨q4, r4⟩
      · rw [Tr.strip_is]
        refine .mk name vp vk ps css (ks.map Tr.strip) fps (slat_low (slat_same h5 (fun x hx => ho x (rowId_lt h5 hx).2)) (Nat.zero_le _)) (slat_low (slat_same h6 (fun x hx => ho x (by have := (rowId_lt h6 hx).2; omega))) (Nat.zero_le _)) (by rw [h7, List.length_map]) (by rw [h8, List.length_map]) (fun j hj => ?_)
        rw [List.length_map] at hj
        have e : (ks.map Tr.strip).getD j tr0 = (ks.getD j tr0).strip := by
          rw [List.getD_eq_getElem?_getD, List.getElem?_map, List.getD_eq_getElem?_getD, List.getElem?_eq_getElem hj]
          rfl
        rw [e]
        exact mt_same (h10 j hj) (fun x hx => ho x (by have := hfl x (mem_fps hx); omega))
      · rw [List.append_assoc, List.nodup_append]
        refine ⟨rowId_nodup vp, h11, fun x hx y hy e => ?_⟩
        have g1 := h13 x hx
        have g2 := h12 y hy
        omega
      · rcases List.mem_append.1 hx with q | q
        · rcases List.mem_append.1 q with q | q
          · have := (rowId_lt h5 q).2
            omega
          · have := (rowId_lt h6 q).2
            omega
        · have := hfl x q
          omega
/-- What a change at a node leaves: the node's own cells, in its row, are those of another tree. -/
structure Chg (G : AHeap) (pid pg po : Nat) (R : List AV) (F : List Nat) (t' : Tr) (G' : AHeap) : Prop where
  next : G.next ≤ G'.next
  wit : G'.within G'.next
  frame : ∀ x, x < G.next → x ≠ pid → x ∉ F → G'.get x = G.get x
  tree : ∃ cs' F', G'.get pid = some (.row 25 pg (R.take po ++ cs' ++ R.drop (po + 3))) ∧ MT G' cs' t' F' ∧ F'.Nodup ∧ pid ∉ F' ∧ ∀ x ∈ F', x ∈ F ∨ G.next ≤ x
theorem flat_set : ∀ (css : List (List AV)) (i : Nat) (c : List AV), (∀ x ∈ css, x.length = 3) → i < css.length → css.flatten.take (i * 3) ++ c ++ css.flatten.drop (i * 3 + 3) = (css.set i c).flatten
  | [], i, c, _, h => absurd h (Nat.not_lt_zero _)
  | x :: css, 0, c, hx, _ => by
    have h := hx x List.mem_cons_self
    rw [List.flatten_cons, List.set_cons_zero, List.flatten_cons, Nat.zero_mul, List.take_zero, List.nil_append, Nat.zero_add, List.drop_append_of_le_length (by omega), List.drop_of_length_le (by omega), List.nil_append]
  | x :: css, i + 1, c, hx, hi => by
    have h := hx x List.mem_cons_self
    have ih := flat_set css i c (fun y hy => hx y (List.mem_cons_of_mem _ hy)) (by simpa using hi)
    rw [List.flatten_cons, List.set_cons_succ, List.flatten_cons, ← ih, show (i + 1) * 3 = x.length + i * 3 by omega, List.take_length_add_append, show x.length + i * 3 + 3 = x.length + (i * 3 + 3) by omega, List.drop_length_add_append]
    simp
theorem flat_get3 : ∀ (css : List (List AV)) (i : Nat), (∀ x ∈ css, x.length = 3) → i < css.length → (css.flatten.drop (i * 3)).take 3 = css.getD i []
  | [], i, _, h => absurd h (Nat.not_lt_zero _)
  | x :: css, 0, hx, _ => by
    have h := hx x List.mem_cons_self
    rw [Nat.zero_mul, List.drop_zero, List.flatten_cons, List.take_append_of_le_length (by omega), List.take_of_length_le (by omega)]
    rfl
  | x :: css, i + 1, hx, hi => by
    have h := hx x List.mem_cons_self
    rw [List.flatten_cons, show (i + 1) * 3 = x.length + i * 3 by omega, List.drop_length_add_append, flat_get3 css i (fun y hy => hx y (List.mem_cons_of_mem _ hy)) (by simpa using hi)]
    rfl
theorem flat_len3 : ∀ (css : List (List AV)), (∀ x ∈ css, x.length = 3) → css.flatten.length = css.length * 3
  | [], _ => rfl
  | x :: css, hx => by
    rw [List.flatten_cons, List.length_append, flat_len3 css (fun y hy => hx y (List.mem_cons_of_mem _ hy)), hx x List.mem_cons_self, List.length_cons]
    omega
theorem css_len {G : AHeap} {css : List (List AV)} {ks : List Tr} {fps : List (List Nat)} (hl : css.length = ks.length) (h : ∀ i, i < ks.length → MT G (css.getD i []) (ks.getD i tr0) (fps.getD i [])) : ∀ x ∈ css, x.length = 3 := fun x hx => by
  obtain ⟨j, hj, rfl⟩ := List.getElem_of_mem hx
  have := h j (by omega)
  rw [List.getD_eq_getElem?_getD, List.getElem?_eq_getElem hj] at this
  obtain ⟨_, _, e, _⟩ := mt_cs this
  rw [show (some css[j]).getD [] = css[j] from rfl] at e
  rw [e]
  rfl
theorem getD_set {α : Type} (d : α) (l : List α) (i j : Nat) (a : α) (hi : i < l.length) : (l.set i a).getD j d = if j = i then a else l.getD j d := by
  rw [List.getD_eq_getElem?_getD, List.getElem?_set]
  by_cases h : i = j
  · subst h
    rw [if_pos rfl, if_pos hi, if_pos rfl]
    rfl
  · rw [if_neg h, if_neg (fun e => h e.symm), List.getD_eq_getElem?_getD]
theorem mem_set_fl {fps : List (List Nat)} {i : Nat} {F' : List Nat} {x : Nat} (hi : i < fps.length) (h : x ∈ (fps.set i F').flatten) : x ∈ F' ∨ ∃ j, j ≠ i ∧ j < fps.length ∧ x ∈ fps.getD j [] := by
  obtain ⟨j, hj, hx⟩ := mem_fl h
  rw [List.length_set] at hj
  rw [getD_set [] fps i j F' hi] at hx
  by_cases e : j = i
  · rw [if_pos e] at hx
    exact .inl hx
  · rw [if_neg e] at hx
    exact .inr ⟨j, e, hj, hx⟩
theorem nodup_at : ∀ {fps : List (List Nat)}, fps.flatten.Nodup → ∀ {i j : Nat} {x : Nat}, x ∈ fps.getD i [] → x ∈ fps.getD j [] → i = j
  | [], _, i, j, x, hx, _ => by simp at hx
  | f :: fps, h, i, j, x, hx, hy => by
    rw [List.flatten_cons, List.nodup_append] at h
    obtain ⟨h1, h2, h3⟩ := h
    cases i with
    | zero =>
      cases j with
      | zero => rfl
      | succ j =>
        have hx : x ∈ f := hx
        exact absurd rfl (h3 x hx x (mem_fps (show x ∈ fps.getD j [] from hy)))
    | succ i =>
      cases j with
      | zero =>
        have hy : x ∈ f := hy
        exact absurd rfl (h3 x hy x (mem_fps (show x ∈ fps.getD i [] from hx)))
      | succ j => rw [nodup_at h2 (show x ∈ fps.getD i [] from hx) (show x ∈ fps.getD j [] from hy)]
theorem nodup_set : ∀ {fps : List (List Nat)} {i : Nat} {F' : List Nat}, fps.flatten.Nodup → F'.Nodup → i < fps.length → (∀ x ∈ F', ∀ j, j ≠ i → x ∉ fps.getD j []) → (fps.set i F').flatten.Nodup
  | [], i, _, _, _, h, _ => absurd h (Nat.not_lt_zero _)
  | f :: fps, 0, F', h, h2, _, h3 => by
    rw [List.flatten_cons, List.nodup_append] at h
    rw [List.set_cons_zero, List.flatten_cons, List.nodup_append]
    refine ⟨h2, h.2.1, fun x hx y hy e => ?_⟩
    subst e
    obtain ⟨j, hj, hxj⟩ := mem_fl hy
    exact h3 x hx (j + 1) (by omega) hxj
  | f :: fps, i + 1, F', h, h2, hi, h3 => by
    rw [List.flatten_cons, List.nodup_append] at h
    rw [List.set_cons_succ, List.flatten_cons, List.nodup_append]
    refine ⟨h.1, nodup_set h.2.1 h2 (by simpa using hi) (fun x hx j hj => h3 x hx (j + 1) (by omega)), fun x hx y hy e => ?_⟩
    subst e
    rcases mem_set_fl (by simpa using hi) hy with q | ⟨j, hj, hjl, q⟩
    · exact h3 x q 0 (by omega) hx
    · exact h.2.2 x hx x (mem_fps q) rfl
/-- A kid was changed: so was the node. -/
theorem chg_up {G G' : AHeap} {pid pg po : Nat} {R : List AV} {name : List UInt8} {vp : AV} {ps : List (List UInt8 × List UInt8)} {css : List (List AV)} {ks : List Tr} {fps : List (List Nat)} {idk genk i : Nat} {t' : Tr}
    (hrow : G.get pid = some (.row 25 pg R)) (hcs : R = R.take po ++ [.str (B name), vp, .wr idk genk 0 css.length 3] ++ R.drop (po + 3))
    (m1 : SlAt 0 G 62 2 vp (ps.map propV)) (hk : G.get idk = some (.row 25 genk css.flatten)) (h2 : css.length = ks.length) (h3 : fps.length = ks.length)
    (h4 : ∀ j, j < ks.length → MT G (css.getD j []) (ks.getD j tr0) (fps.getD j [])) (hnd : (rowId vp ++ [idk] ++ fps.flatten).Nodup) (hp_ : pid ∉ rowId vp ++ [idk] ++ fps.flatten) (hi : i < ks.length)
    (hc : Chg G idk genk (i * 3) css.flatten (fps.getD i []) t' G') : Chg G pid pg po R (rowId vp ++ [idk] ++ fps.flatten) (.mk name 0 ps 0 (ks.set i t')) G' := by
  obtain ⟨c1, c2, c3, cs', F', c4, c5, c6, c7, c8⟩ := hc
  have hlp := G.lt hrow
  have hlk := G.lt hk
  have hl3 := css_len h2 h4
  rw [List.append_assoc, List.nodup_append] at hnd
  obtain ⟨_, hnd2, hnd3⟩ := hnd
  rw [List.nodup_append] at hnd2
  obtain ⟨_, hnd4, hnd5⟩ := hnd2
  have hpi : pid ≠ idk := fun e => hp_ (by simp [e])
  have hpF : ∀ j, pid ∉ fps.getD j [] := fun j q => hp_ (List.mem_append_right _ (mem_fps q))
  have hkF : ∀ j, idk ∉ fps.getD j [] := fun j q => hnd5 idk (List.mem_singleton.2 rfl) idk (mem_fps q) rfl
  have hvF : ∀ x ∈ rowId vp, x ≠ idk ∧ ∀ j, x ∉ fps.getD j [] := fun x hx => ⟨fun e => hnd3 x hx x (by simp [e]) rfl, fun j q => hnd3 x hx x (List.mem_append_right _ (mem_fps q)) rfl⟩
  have hF' : ∀ x ∈ F', ∀ j, j ≠ i → x ∉ fps.getD j [] := fun x hx j hj q => by
    rcases c8 x hx with g | g
    · exact hj (nodup_at hnd4 q g)
    · by_cases hjl : j < ks.length
      · have := mt_lt (h4 j hjl) x q
        omega
      · rw [List.getD_eq_getElem?_getD, List.getElem?_eq_none (by omega)] at q
        cases q
  rw [flat_set css i cs' hl3 (by omega)] at c4
  have hget : ∀ x, x < G.next → x ≠ idk → x ∉ fps.getD i [] → G'.get x = G.get x := c3
  have hrowp : G'.get pid = some (.row 25 pg R) := (hget pid hlp hpi (hpF i)).trans hrow
  refine ⟨c1, c2, fun x hx hxp hxF => hget x hx (fun e => hxF (by simp [e])) (fun q => hxF (List.mem_append_right _ (mem_fps q))), [.str (B name), vp, .wr idk genk 0 css.length 3], rowId vp ++ [idk] ++ (fps.set i F').flatten, by rw [← hcs]; exact hrowp, ?_, ?_, ?_, fun x hx => ?_⟩
  · refine MT.mk (G := G') name vp (.wr idk genk 0 css.length 3) ps (css.set i cs') (ks.set i t') (fps.set i F') (slat_same m1 (fun x hx => hget x (rowId_lt m1 hx).1 (hvF x hx).1 ((hvF x hx).2 i))) (.inr ⟨idk, genk, by rw [List.length_map, List.length_set], Nat.zero_le _, by rw [agg_flat]; exact c4⟩) (by rw [List.length_set, List.length_set, h2]) (by rw [List.length_set, List.length_set, h3]) (fun j hj => ?_)
    rw [List.length_set] at hj
    rw [getD_set [] css i j cs' (by omega), getD_set tr0 ks i j t' hi, getD_set [] fps i j F' (by omega)]
    by_cases e : j = i
    · rw [if_pos e, if_pos e, if_pos e]
      exact c5
    · rw [if_neg e, if_neg e, if_neg e]
      exact mt_same (h4 j hj) (fun x hx => hget x (mt_lt (h4 j hj) x hx) (fun q => hkF j (by rw [← q]; exact hx)) (fun q => e (nodup_at hnd4 hx q)))
  · rw [List.append_assoc, List.nodup_append]
    refine ⟨rowId_nodup vp, ?_, fun x hx y hy e => ?_⟩
    · rw [List.nodup_append]
      refine ⟨by simp, nodup_set hnd4 c6 (by omega) hF', fun x hx y hy e => ?_⟩
      rw [List.mem_singleton] at hx
      subst hx
      subst e
      rcases mem_set_fl (by omega) hy with q | ⟨j, hj, hjl, q⟩
      · exact c7 q
      · exact hkF j q
    · subst e
      have hxl := (rowId_lt m1 hx).1
      rcases List.mem_append.1 hy with q | q
      · exact (hvF x hx).1 (List.mem_singleton.1 q)
      · rcases mem_set_fl (by omega) q with q | ⟨j, hj, hjl, q⟩
        · rcases c8 x q with g | g
          · exact (hvF x hx).2 i g
          · omega
        · exact (hvF x hx).2 j q
  · intro q
    rcases List.mem_append.1 q with q | q
    · exact hp_ (List.mem_append_left _ q)
    · rcases mem_set_fl (by omega) q with q | ⟨j, hj, hjl, q⟩
      · rcases c8 pid q with g | g
        · exact hpF i g
        · omega
      · exact hpF j q
  · rcases List.mem_append.1 hx with q | q
    · exact .inl (List.mem_append_left _ q)
    · rcases mem_set_fl (by omega) q with q | ⟨j, hj, hjl, q⟩
      · rcases c8 x q with g | g
        · exact .inl (List.mem_append_right _ (mem_fps g))
        · exact .inr g
      · exact .inl (List.mem_append_right _ (mem_fps q))
def c87 : ACode := 
    (.seq 
    (.region [⟨(some 4), (.q (.move (.const (.bool false)))), none⟩]) 
    (.seq 
    (.region [⟨(some 5), (.q (.move (.tmp 0))), none⟩, ⟨(some 6), (.q (.len true (.tmp 5))), none⟩, ⟨(some 7), (.q (.move (.tmp 1))), none⟩, ⟨(some 8), (.q (.len true (.tmp 7))), none⟩, ⟨(some 9), (.q (.bin .geq (.tmp 6) (.tmp 8))), none⟩, ⟨(some 10), (.q (.move (.tmp 9))), none⟩, ⟨(some 11), (.q (.move (.tmp 0))), (some (10, true))⟩, ⟨(some 12), (.q (.move (.tmp 1))), (some (10, true))⟩, ⟨(some 13), (.q (.len true (.tmp 12))), (some (10, true))⟩, ⟨(some 14), (.q (.sliceStr (.tmp 11) none (some (.tmp 13)))), (some (10, true))⟩, ⟨(some 15), (.q (.move (.tmp 1))), (some (10, true))⟩, ⟨(some 16), (.q (.bin .eql (.tmp 14) (.tmp 15))), (some (10, true))⟩, ⟨(some 17), (.q (.pick (.tmp 10) (.tmp 16) (.const (.bool false)))), none⟩, ⟨(some 4), (.q (.move (.tmp 17))), none⟩]) .ret))
theorem t87 : Told Tryd.prog 87 18 c87 [(.tmp 4)] := ⟨Tryd.f87, _, [], Tryd.func87, rfl, by kernel_rfl, rfl, by kernel_rfl, by kernel_rfl⟩
def c71 : ACode := 
    (.seq 
    (.region [⟨(some 4), (.q (.move (.const (.str (B []))))), none⟩, ⟨(some 5), (.q (.move (.const (.bool false)))), none⟩]) 
    (.seq 
    (.seq 
    (.region [⟨(some 6), (.q (.move (.tmp 0))), none⟩, ⟨(some 7), (.q (.move (.tmp 1))), none⟩, ⟨(some 8), (.s (.call 87 [(.tmp 6), (.tmp 7)])), none⟩, ⟨(some 9), (.q (.un .not (.tmp 8))), none⟩]) 
    (.cond (.tmp 9) 
    (.seq 
    (.region [⟨(some 10), (.q (.move (.tmp 0))), none⟩, ⟨(some 4), (.q (.move (.tmp 10))), none⟩, ⟨(some 5), (.q (.move (.const (.bool false)))), none⟩]) .ret) .skip)) 
    (.seq 
    (.region [⟨(some 11), (.q (.move (.tmp 0))), none⟩, ⟨(some 12), (.q (.move (.tmp 1))), none⟩, ⟨(some 13), (.q (.len true (.tmp 12))), none⟩, ⟨(some 14), (.q (.sliceStr (.tmp 11) (some (.tmp 13)) none)), none⟩, ⟨(some 4), (.q (.move (.tmp 14))), none⟩, ⟨(some 5), (.q (.move (.const (.bool true)))), none⟩]) .ret)))
theorem t71 : Told Tryd.prog 71 15 c71 [(.tmp 4), (.tmp 5)] := ⟨Tryd.f71, _, [], Tryd.func71, rfl, by kernel_rfl, rfl, by kernel_rfl, by kernel_rfl⟩
def c59 : ACode := 
    (.seq 
    (.region [⟨(some 4), (.q (.move (.const (.str (B []))))), none⟩, ⟨(some 5), (.q (.move (.const (.bool false)))), none⟩]) 
    (.seq 
    (.region [⟨(some 6), (.q (.move (.tmp 0))), none⟩, ⟨(some 7), (.q (.move (.tmp 1))), none⟩, ⟨(some 8), (.s (.call 71 [(.tmp 6), (.tmp 7)])), none⟩, ⟨(some 9), (.q (.extract 0 (.tmp 8))), none⟩, ⟨(some 10), (.q (.extract 1 (.tmp 8))), none⟩, ⟨(some 4), (.q (.move (.tmp 9))), none⟩, ⟨(some 5), (.q (.move (.tmp 10))), none⟩]) .ret))
theorem t59 : Told Tryd.prog 59 11 c59 [(.tmp 4), (.tmp 5)] := ⟨Tryd.f59, _, [], Tryd.func59, rfl, by kernel_rfl, rfl, by kernel_rfl, by kernel_rfl⟩
def c73 : ACode := 
    (.seq 
    (.region [⟨(some 4), (.q (.move (.const (.int .i64 0)))), none⟩]) 
    (.seq 
    (.seq 
    (.region [⟨(some 6), (.q (.move (.tmp 0))), none⟩, ⟨(some 7), (.q (.len false (.tmp 6))), none⟩, ⟨(some 8), (.q (.move (.const (.int .i64 0)))), none⟩]) 
    (.block 0 
    (.loop 
    (.seq 
    (.region [⟨(some 9), (.q (.bin .lss (.tmp 8) (.tmp 7))), none⟩]) 
    (.seq 
    (.cond (.tmp 9) .skip (.exit 0)) 
    (.seq 
    (.block 1 
    (.seq 
    (.region [⟨(some 10), (.q (.move (.tmp 8))), none⟩, ⟨(some 5), (.q (.move (.tmp 10))), none⟩]) 
    (.seq 
    (.region [⟨(some 11), (.q (.move (.tmp 1))), none⟩, ⟨(some 12), (.q (.move (.tmp 0))), none⟩, ⟨(some 13), (.q (.move (.tmp 5))), none⟩, ⟨(some 14), (.q (.idxSl 1 (.tmp 12) (.tmp 13))), none⟩, ⟨(some 15), (.q (.load false 1 (.tmp 14))), none⟩, ⟨(some 16), (.q (.bin .eql (.tmp 11) (.tmp 15))), none⟩]) 
    (.cond (.tmp 16) 
    (.seq 
    (.region [⟨(some 17), (.q (.move (.tmp 5))), none⟩, ⟨(some 4), (.q (.move (.tmp 17))), none⟩]) .ret) .skip)))) 
    (.region [⟨(some 18), (.q (.bin .add (.tmp 8) (.const (.int .i64 1)))), none⟩, ⟨(some 8), (.q (.move (.tmp 18))), none⟩]))))))) 
    (.seq 
    (.region [⟨(some 4), (.q (.move (.const (.int .i64 (-1))))), none⟩]) .ret)))
theorem t73 : Told Tryd.prog 73 19 c73 [(.tmp 4)] := ⟨Tryd.f73, _, [], Tryd.func73, rfl, by kernel_rfl, rfl, by kernel_rfl, by kernel_rfl⟩
def c61 : ACode := 
    (.seq 
    (.region [⟨(some 4), (.q (.move (.const (.bool false)))), none⟩]) 
    (.seq 
    (.region [⟨(some 5), (.q (.move (.tmp 0))), none⟩, ⟨(some 6), (.q (.move (.tmp 1))), none⟩, ⟨(some 7), (.s (.call 73 [(.tmp 5), (.tmp 6)])), none⟩, ⟨(some 8), (.q (.bin .geq (.tmp 7) (.const (.int .i64 0)))), none⟩, ⟨(some 4), (.q (.move (.tmp 8))), none⟩]) .ret))
theorem t61 : Told Tryd.prog 61 9 c61 [(.tmp 4)] := ⟨Tryd.f61, _, [], Tryd.func61, rfl, by kernel_rfl, rfl, by kernel_rfl, by kernel_rfl⟩
def c62 : ACode := 
    (.seq 
    (.region [⟨(some 4), (.q (.move (.const (.str (B []))))), none⟩]) 
    (.seq 
    (.seq 
    (.region [⟨(some 11), (.q (.move (.tmp 0))), none⟩, ⟨(some 12), (.q (.len false (.tmp 11))), none⟩]) 
    (.block 0 
    (.seq 
    (.region [⟨(some 14), (.q (.bin .eql (.tmp 12) (.const (.int .i64 0)))), none⟩, ⟨(some 13), (.q (.move (.tmp 14))), none⟩]) 
    (.cond (.tmp 13) 
    (.seq 
    (.region [⟨(some 4), (.q (.move (.const (.str (B []))))), none⟩]) .ret) 
    (.seq 
    (.region [⟨(some 16), (.q (.bin .eql (.tmp 12) (.const (.int .i64 1)))), none⟩, ⟨(some 15), (.q (.move (.tmp 16))), none⟩]) 
    (.cond (.tmp 15) 
    (.seq 
    (.region [⟨(some 17), (.q (.move (.tmp 0))), none⟩, ⟨(some 18), (.q (.idxSl 1 (.tmp 17) (.const (.int .i64 0)))), none⟩, ⟨(some 19), (.q (.load false 1 (.tmp 18))), none⟩, ⟨(some 4), (.q (.move (.tmp 19))), none⟩]) .ret) .skip)))))) 
    (.seq 
    (.region [⟨(some 5), (.q (.move (.const (.int .i64 0)))), none⟩]) 
    (.seq 
    (.seq 
    (.region [⟨(some 20), (.q (.move (.tmp 1))), none⟩, ⟨(some 21), (.q (.len true (.tmp 20))), none⟩, ⟨(some 22), (.q (.bin .gtr (.tmp 21) (.const (.int .i64 0)))), none⟩]) 
    (.cond (.tmp 22) 
    (.seq 
    (.seq 
    (.region [⟨(some 23), (.q (.move (.tmp 1))), none⟩, ⟨(some 24), (.q (.len true (.tmp 23))), none⟩, ⟨(some 25), (.q (.move (.tmp 0))), none⟩, ⟨(some 26), (.q (.len false (.tmp 25))), none⟩, ⟨(some 27), (.q (.bin .sub (.tmp 26) (.const (.int .i64 1)))), none⟩, ⟨(some 28), (.q (.bin .quo (.const (.int .i64 9223372036854775807)) (.tmp 27))), none⟩, ⟨(some 29), (.q (.bin .geq (.tmp 24) (.tmp 28))), none⟩]) 
    (.cond (.tmp 29) 
    (.region [⟨(some 30), (.q (.iface 9 (.const (.str (B [115, 116, 114, 105, 110, 103, 115, 58, 32, 74, 111, 105, 110, 32, 111, 117, 116, 112, 117, 116, 32, 108, 101, 110, 103, 116, 104, 32, 111, 118, 101, 114, 102, 108, 111, 119]))))), none⟩, ⟨none, (.s .stop), none⟩]) .skip)) 
    (.region [⟨(some 31), (.q (.move (.tmp 5))), none⟩, ⟨(some 32), (.q (.move (.tmp 1))), none⟩, ⟨(some 33), (.q (.len true (.tmp 32))), none⟩, ⟨(some 34), (.q (.move (.tmp 0))), none⟩, ⟨(some 35), (.q (.len false (.tmp 34))), none⟩, ⟨(some 36), (.q (.bin .sub (.tmp 35) (.const (.int .i64 1)))), none⟩, ⟨(some 37), (.q (.bin .mul (.tmp 33) (.tmp 36))), none⟩, ⟨(some 38), (.q (.bin .add (.tmp 31) (.tmp 37))), none⟩, ⟨(some 5), (.q (.move (.tmp 38))), none⟩])) .skip)) 
    (.seq 
    (.seq 
    (.region [⟨(some 39), (.q (.move (.tmp 0))), none⟩, ⟨(some 40), (.q (.len false (.tmp 39))), none⟩, ⟨(some 41), (.q (.move (.const (.int .i64 0)))), none⟩]) 
    (.block 1 
    (.loop 
    (.seq 
    (.region [⟨(some 42), (.q (.bin .lss (.tmp 41) (.tmp 40))), none⟩]) 
    (.seq 
    (.cond (.tmp 42) .skip (.exit 1)) 
    (.seq 
    (.block 2 
    (.seq 
    (.region [⟨(some 43), (.q (.idxSl 1 (.tmp 39) (.tmp 41))), none⟩, ⟨(some 44), (.q (.load false 1 (.tmp 43))), none⟩, ⟨(some 7), (.q (.move (.tmp 44))), none⟩]) 
    (.seq 
    (.seq 
    (.region [⟨(some 45), (.q (.move (.tmp 7))), none⟩, ⟨(some 46), (.q (.len true (.tmp 45))), none⟩, ⟨(some 47), (.q (.move (.tmp 5))), none⟩, ⟨(some 48), (.q (.bin .sub (.const (.int .i64 9223372036854775807)) (.tmp 47))), none⟩, ⟨(some 49), (.q (.bin .gtr (.tmp 46) (.tmp 48))), none⟩]) 
    (.cond (.tmp 49) 
    (.region [⟨(some 50), (.q (.iface 9 (.const (.str (B [115, 116, 114, 105, 110, 103, 115, 58, 32, 74, 111, 105, 110, 32, 111, 117, 116, 112, 117, 116, 32, 108, 101, 110, 103, 116, 104, 32, 111, 118, 101, 114, 102, 108, 111, 119]))))), none⟩, ⟨none, (.s .stop), none⟩]) .skip)) 
    (.region [⟨(some 51), (.q (.move (.tmp 5))), none⟩, ⟨(some 52), (.q (.move (.tmp 7))), none⟩, ⟨(some 53), (.q (.len true (.tmp 52))), none⟩, ⟨(some 54), (.q (.bin .add (.tmp 51) (.tmp 53))), none⟩, ⟨(some 5), (.q (.move (.tmp 54))), none⟩])))) 
    (.region [⟨(some 55), (.q (.bin .add (.tmp 41) (.const (.int .i64 1)))), none⟩, ⟨(some 41), (.q (.move (.tmp 55))), none⟩]))))))) 
    (.seq 
    (.region [⟨(some 8), (.s (.alloc 102 [.nilp, .nils])), none⟩]) 
    (.seq 
    (.region [⟨(some 56), (.q (.move (.tmp 5))), none⟩, ⟨(some 57), (.s (.call 74 [(.tmp 8), (.tmp 56)])), none⟩]) 
    (.seq 
    (.region [⟨(some 58), (.q (.move (.tmp 0))), none⟩, ⟨(some 59), (.q (.idxSl 1 (.tmp 58) (.const (.int .i64 0)))), none⟩, ⟨(some 60), (.q (.load false 1 (.tmp 59))), none⟩, ⟨(some 61), (.s (.call 75 [(.tmp 8), (.tmp 60)])), none⟩]) 
    (.seq 
    (.seq 
    (.region [⟨(some 62), (.q (.move (.tmp 0))), none⟩, ⟨(some 63), (.q (.sliceSl 1 (.tmp 62) (some (.const (.int .i64 1))) none)), none⟩, ⟨(some 64), (.q (.len false (.tmp 63))), none⟩, ⟨(some 65), (.q (.move (.const (.int .i64 0)))), none⟩]) 
    (.block 3 
    (.loop 
    (.seq 
    (.region [⟨(some 66), (.q (.bin .lss (.tmp 65) (.tmp 64))), none⟩]) 
    (.seq 
    (.cond (.tmp 66) .skip (.exit 3)) 
    (.seq 
    (.block 4 
    (.seq 
    (.region [⟨(some 67), (.q (.idxSl 1 (.tmp 63) (.tmp 65))), none⟩, ⟨(some 68), (.q (.load false 1 (.tmp 67))), none⟩, ⟨(some 10), (.q (.move (.tmp 68))), none⟩]) 
    (.seq 
    (.region [⟨(some 69), (.q (.move (.tmp 1))), none⟩, ⟨(some 70), (.s (.call 75 [(.tmp 8), (.tmp 69)])), none⟩]) 
    (.region [⟨(some 71), (.q (.move (.tmp 10))), none⟩, ⟨(some 72), (.s (.call 75 [(.tmp 8), (.tmp 71)])), none⟩])))) 
    (.region [⟨(some 73), (.q (.bin .add (.tmp 65) (.const (.int .i64 1)))), none⟩, ⟨(some 65), (.q (.move (.tmp 73))), none⟩]))))))) 
    (.seq 
    (.region [⟨(some 74), (.s (.call 76 [(.tmp 8)])), none⟩, ⟨(some 4), (.q (.move (.tmp 74))), none⟩]) .ret))))))))))
theorem t62 : Told Tryd.prog 62 75 c62 [(.tmp 4)] := ⟨Tryd.f62, _, [], Tryd.func62, rfl, by kernel_rfl, rfl, by kernel_rfl, by kernel_rfl⟩
def c42 : ACode := 
    (.seq 
    (.region [⟨(some 4), (.q (.move (.const (.int .i64 0)))), none⟩]) 
    (.seq 
    (.seq 
    (.region [⟨(some 6), (.q (.move (.tmp 0))), none⟩, ⟨(some 7), (.q (.len false (.tmp 6))), none⟩, ⟨(some 8), (.q (.move (.const (.int .i64 0)))), none⟩]) 
    (.block 0 
    (.loop 
    (.seq 
    (.region [⟨(some 9), (.q (.bin .lss (.tmp 8) (.tmp 7))), none⟩]) 
    (.seq 
    (.cond (.tmp 9) .skip (.exit 0)) 
    (.seq 
    (.block 1 
    (.seq 
    (.region [⟨(some 10), (.q (.move (.tmp 8))), none⟩, ⟨(some 5), (.q (.move (.tmp 10))), none⟩]) 
    (.seq 
    (.region [⟨(some 11), (.q (.move (.tmp 1))), none⟩, ⟨(some 12), (.q (.move (.tmp 0))), none⟩, ⟨(some 13), (.q (.move (.tmp 5))), none⟩, ⟨(some 14), (.q (.idxSl 3 (.tmp 12) (.tmp 13))), none⟩, ⟨(some 15), (.q (.load true 3 (.tmp 14))), none⟩, ⟨(some 16), (.s (.callv (.tmp 11) [(.tmp 15)])), none⟩]) 
    (.cond (.tmp 16) 
    (.seq 
    (.region [⟨(some 17), (.q (.move (.tmp 5))), none⟩, ⟨(some 4), (.q (.move (.tmp 17))), none⟩]) .ret) .skip)))) 
    (.region [⟨(some 18), (.q (.bin .add (.tmp 8) (.const (.int .i64 1)))), none⟩, ⟨(some 8), (.q (.move (.tmp 18))), none⟩]))))))) 
    (.seq 
    (.region [⟨(some 4), (.q (.move (.const (.int .i64 (-1))))), none⟩]) .ret)))
theorem t42 : Told Tryd.prog 42 19 c42 [(.tmp 4)] := ⟨Tryd.f42, _, [], Tryd.func42, rfl, by kernel_rfl, rfl, by kernel_rfl, by kernel_rfl⟩
def c55 : ACode := 
    (.seq 
    (.region [⟨(some 4), (.q (.move (.const (.int .i64 0)))), none⟩]) 
    (.seq 
    (.seq 
    (.region [⟨(some 6), (.q (.move (.tmp 0))), none⟩, ⟨(some 7), (.q (.len false (.tmp 6))), none⟩, ⟨(some 8), (.q (.move (.const (.int .i64 0)))), none⟩]) 
    (.block 0 
    (.loop 
    (.seq 
    (.region [⟨(some 9), (.q (.bin .lss (.tmp 8) (.tmp 7))), none⟩]) 
    (.seq 
    (.cond (.tmp 9) .skip (.exit 0)) 
    (.seq 
    (.block 1 
    (.seq 
    (.region [⟨(some 10), (.q (.move (.tmp 8))), none⟩, ⟨(some 5), (.q (.move (.tmp 10))), none⟩]) 
    (.seq 
    (.region [⟨(some 11), (.q (.move (.tmp 1))), none⟩, ⟨(some 12), (.q (.move (.tmp 0))), none⟩, ⟨(some 13), (.q (.move (.tmp 5))), none⟩, ⟨(some 14), (.q (.idxSl 2 (.tmp 12) (.tmp 13))), none⟩, ⟨(some 15), (.q (.load true 2 (.tmp 14))), none⟩, ⟨(some 16), (.s (.callv (.tmp 11) [(.tmp 15)])), none⟩]) 
    (.cond (.tmp 16) 
    (.seq 
    (.region [⟨(some 17), (.q (.move (.tmp 5))), none⟩, ⟨(some 4), (.q (.move (.tmp 17))), none⟩]) .ret) .skip)))) 
    (.region [⟨(some 18), (.q (.bin .add (.tmp 8) (.const (.int .i64 1)))), none⟩, ⟨(some 8), (.q (.move (.tmp 18))), none⟩]))))))) 
    (.seq 
    (.region [⟨(some 4), (.q (.move (.const (.int .i64 (-1))))), none⟩]) .ret)))
theorem t55 : Told Tryd.prog 55 19 c55 [(.tmp 4)] := ⟨Tryd.f55, _, [], Tryd.func55, rfl, by kernel_rfl, rfl, by kernel_rfl, by kernel_rfl⟩
def c39 : ACode := 
    (.seq 
    (.region [⟨(some 2), (.q (.move (.const .nils))), none⟩, ⟨(some 3), (.q (.move (.const (.bool false)))), none⟩]) 
    (.seq 
    (.seq 
    (.region [⟨(some 7), (.q (.move (.tmp 0))), none⟩, ⟨(some 8), (.q (.bin .eql (.tmp 7) (.const (.str (B [47]))))), none⟩]) 
    (.cond (.tmp 8) 
    (.seq 
    (.region [⟨(some 2), (.q (.move (.const .nils))), none⟩, ⟨(some 3), (.q (.move (.const (.bool true)))), none⟩]) .ret) .skip)) 
    (.seq 
    (.region [⟨(some 10), (.q (.move (.tmp 0))), none⟩, ⟨(some 11), (.s (.call 59 [(.tmp 10), (.const (.str (B [47])))])), none⟩, ⟨(some 9), (.q (.move (.tmp 11))), none⟩, ⟨(some 12), (.q (.extract 0 (.tmp 9))), none⟩, ⟨(some 13), (.q (.extract 1 (.tmp 9))), none⟩, ⟨(some 4), (.q (.move (.tmp 12))), none⟩, ⟨(some 5), (.q (.move (.tmp 13))), none⟩]) 
    (.seq 
    (.region [⟨(some 14), (.q (.move (.tmp 4))), none⟩, ⟨(some 15), (.s (.call 60 [(.tmp 14), (.const (.str (B [47])))])), none⟩, ⟨(some 6), (.q (.move (.tmp 15))), none⟩]) 
    (.seq 
    (.seq 
    (.region [⟨(some 16), (.q (.move (.tmp 5))), none⟩, ⟨(some 17), (.q (.un .not (.tmp 16))), none⟩, ⟨(some 18), (.q (.move (.tmp 17))), none⟩, ⟨(some 19), (.q (.move (.tmp 6))), (some (18, false))⟩, ⟨(some 20), (.q (.len false (.tmp 19))), (some (18, false))⟩, ⟨(some 21), (.q (.bin .geq (.tmp 20) (.const (.int .i64 8)))), (some (18, false))⟩, ⟨(some 22), (.q (.pick (.tmp 18) (.const (.bool true)) (.tmp 21))), none⟩, ⟨(some 23), (.q (.move (.tmp 22))), none⟩, ⟨(some 24), (.q (.move (.tmp 6))), (some (23, false))⟩, ⟨(some 25), (.s (.call 61 [(.tmp 24), (.const (.str (B [])))])), (some (23, false))⟩, ⟨(some 26), (.q (.pick (.tmp 23) (.const (.bool true)) (.tmp 25))), none⟩]) 
    (.cond (.tmp 26) 
    (.seq 
    (.region [⟨(some 2), (.q (.move (.const .nils))), none⟩, ⟨(some 3), (.q (.move (.const (.bool false)))), none⟩]) .ret) .skip)) 
    (.seq 
    (.region [⟨(some 27), (.q (.move (.tmp 6))), none⟩, ⟨(some 2), (.q (.move (.tmp 27))), none⟩, ⟨(some 3), (.q (.move (.const (.bool true)))), none⟩]) .ret))))))
theorem t39 : Told Tryd.prog 39 28 c39 [(.tmp 2), (.tmp 3)] := ⟨Tryd.f39, _, [], Tryd.func39, rfl, by kernel_rfl, rfl, by kernel_rfl, by kernel_rfl⟩
def c40 : ACode := 
    (.seq 
    (.region [⟨(some 2), (.q (.move (.const (.str (B []))))), none⟩]) 
    (.seq 
    (.region [⟨(some 3), (.q (.move (.tmp 0))), none⟩, ⟨(some 4), (.s (.call 62 [(.tmp 3), (.const (.str (B [47])))])), none⟩, ⟨(some 5), (.q (.bin .add (.const (.str (B [47]))) (.tmp 4))), none⟩, ⟨(some 2), (.q (.move (.tmp 5))), none⟩]) .ret))
theorem t40 : Told Tryd.prog 40 6 c40 [(.tmp 2)] := ⟨Tryd.f40, _, [], Tryd.func40, rfl, by kernel_rfl, rfl, by kernel_rfl, by kernel_rfl⟩
def c38 : ACode := 
    (.seq 
    (.region [⟨(some 2), (.s (.box 25 (.tmp 0))), none⟩, ⟨(some 3), (.s (.box 9 (.tmp 1))), none⟩, ⟨(some 4), (.s (.alloc 25 [(.str (B [])), .nils, .nils])), none⟩, ⟨(some 5), (.q (.move (.const (.bool false)))), none⟩]) 
    (.seq 
    (.region [⟨(some 7), (.q (.fieldAddr 2 (.tmp 2))), none⟩, ⟨(some 8), (.q (.load false 1 (.tmp 7))), none⟩, ⟨(some 9), (.q (.mkFunc (.func 58) [] [(.tmp 3)])), none⟩, ⟨(some 10), (.s (.call 42 [(.tmp 8), (.tmp 9)])), none⟩, ⟨(some 6), (.q (.move (.tmp 10))), none⟩]) 
    (.seq 
    (.seq 
    (.region [⟨(some 11), (.q (.move (.tmp 6))), none⟩, ⟨(some 12), (.q (.bin .lss (.tmp 11) (.const (.int .i64 0)))), none⟩]) 
    (.cond (.tmp 12) 
    (.seq 
    (.region [⟨(some 13), (.q (.build [(.str (B [])), .nils, .nils] [])), none⟩, ⟨none, (.s (.store 3 (.tmp 4) (.tmp 13))), none⟩, ⟨(some 5), (.q (.move (.const (.bool false)))), none⟩]) .ret) .skip)) 
    (.seq 
    (.region [⟨(some 14), (.q (.fieldAddr 2 (.tmp 2))), none⟩, ⟨(some 15), (.q (.load false 1 (.tmp 14))), none⟩, ⟨(some 16), (.q (.move (.tmp 6))), none⟩, ⟨(some 17), (.q (.idxSl 3 (.tmp 15) (.tmp 16))), none⟩, ⟨(some 18), (.q (.load true 3 (.tmp 17))), none⟩, ⟨none, (.s (.store 3 (.tmp 4) (.tmp 18))), none⟩, ⟨(some 5), (.q (.move (.const (.bool true)))), none⟩]) .ret))))
theorem t38 : Told Tryd.prog 38 19 c38 [(.cell 4 true 3), (.tmp 5)] := ⟨Tryd.f38, _, [], Tryd.func38, rfl, by kernel_rfl, rfl, by kernel_rfl, by kernel_rfl⟩
def c58 : ACode := 
    (.seq 
    (.region [⟨(some 2), (.s (.box 25 (.tmp 0))), none⟩, ⟨(some 3), (.q (.move (.const (.bool false)))), none⟩]) 
    (.seq 
    (.region [⟨(some 4), (.q (.fieldAddr 0 (.tmp 2))), none⟩, ⟨(some 5), (.q (.load false 1 (.tmp 4))), none⟩, ⟨(some 6), (.q (.load false 1 (.tmp 1))), none⟩, ⟨(some 7), (.q (.bin .eql (.tmp 5) (.tmp 6))), none⟩, ⟨(some 3), (.q (.move (.tmp 7))), none⟩]) .ret))
theorem t58 : Told Tryd.prog 58 8 c58 [(.tmp 3)] := ⟨Tryd.f58, _, [], Tryd.func58, rfl, by kernel_rfl, rfl, by kernel_rfl, by kernel_rfl⟩
def c45 : ACode := 
    (.seq 
    (.region [⟨(some 2), (.s (.box 25 (.tmp 0))), none⟩, ⟨(some 4), (.s (.alloc 25 [(.str (B [])), .nils, .nils])), none⟩, ⟨(some 5), (.q (.move (.const (.bool false)))), none⟩]) 
    (.seq 
    (.region [⟨(some 11), (.q (.move (.tmp 1))), none⟩, ⟨(some 12), (.s (.call 39 [(.tmp 11)])), none⟩, ⟨(some 10), (.q (.move (.tmp 12))), none⟩, ⟨(some 13), (.q (.extract 0 (.tmp 10))), none⟩, ⟨(some 14), (.q (.extract 1 (.tmp 10))), none⟩, ⟨(some 6), (.q (.move (.tmp 13))), none⟩, ⟨(some 7), (.q (.move (.tmp 14))), none⟩]) 
    (.seq 
    (.seq 
    (.region [⟨(some 15), (.q (.move (.tmp 6))), none⟩, ⟨(some 16), (.q (.len false (.tmp 15))), none⟩, ⟨(some 17), (.q (.move (.const (.int .i64 0)))), none⟩]) 
    (.block 0 
    (.loop 
    (.seq 
    (.region [⟨(some 18), (.q (.bin .lss (.tmp 17) (.tmp 16))), none⟩]) 
    (.seq 
    (.cond (.tmp 18) .skip (.exit 0)) 
    (.seq 
    (.block 1 
    (.seq 
    (.region [⟨(some 19), (.q (.idxSl 1 (.tmp 15) (.tmp 17))), none⟩, ⟨(some 20), (.q (.load false 1 (.tmp 19))), none⟩, ⟨(some 9), (.q (.move (.tmp 20))), none⟩]) 
    (.seq 
    (.region [⟨(some 21), (.q (.move (.tmp 7))), none⟩]) 
    (.cond (.tmp 21) 
    (.region [⟨(some 23), (.q (.load true 3 (.tmp 2))), none⟩, ⟨(some 24), (.q (.move (.tmp 9))), none⟩, ⟨(some 25), (.s (.call 38 [(.tmp 23), (.tmp 24)])), none⟩, ⟨(some 22), (.q (.move (.tmp 25))), none⟩, ⟨(some 26), (.q (.extract 0 (.tmp 22))), none⟩, ⟨(some 27), (.q (.extract 1 (.tmp 22))), none⟩, ⟨none, (.s (.store 3 (.tmp 2) (.tmp 26))), none⟩, ⟨(some 7), (.q (.move (.tmp 27))), none⟩]) .skip)))) 
    (.region [⟨(some 28), (.q (.bin .add (.tmp 17) (.const (.int .i64 1)))), none⟩, ⟨(some 17), (.q (.move (.tmp 28))), none⟩]))))))) 
    (.seq 
    (.seq 
    (.region [⟨(some 29), (.q (.move (.tmp 7))), none⟩, ⟨(some 30), (.q (.un .not (.tmp 29))), none⟩]) 
    (.cond (.tmp 30) 
    (.seq 
    (.region [⟨(some 31), (.q (.build [(.str (B [])), .nils, .nils] [])), none⟩, ⟨none, (.s (.store 3 (.tmp 4) (.tmp 31))), none⟩, ⟨(some 5), (.q (.move (.const (.bool false)))), none⟩]) .ret) .skip)) 
    (.seq 
    (.region [⟨(some 32), (.q (.load true 3 (.tmp 2))), none⟩, ⟨none, (.s (.store 3 (.tmp 4) (.tmp 32))), none⟩, ⟨(some 5), (.q (.move (.const (.bool true)))), none⟩]) .ret)))))
theorem t45 : Told Tryd.prog 45 33 c45 [(.cell 4 true 3), (.tmp 5)] := ⟨Tryd.f45, _, [], Tryd.func45, rfl, by kernel_rfl, rfl, by kernel_rfl, by kernel_rfl⟩
def c50 : ACode := 
    (.seq 
    (.region [⟨(some 2), (.q (.move (.const (.str (B []))))), none⟩]) 
    (.seq 
    (.region [⟨(some 3), (.q (.move (.const (.str (B []))))), none⟩]) 
    (.seq 
    (.seq 
    (.region [⟨(some 4), (.q (.move (.const (.int .i64 0)))), none⟩]) 
    (.block 0 
    (.loop 
    (.seq 
    (.seq 
    (.region [⟨(some 5), (.q (.move (.tmp 4))), none⟩, ⟨(some 6), (.q (.move (.tmp 0))), none⟩, ⟨(some 7), (.q (.len false (.tmp 6))), none⟩, ⟨(some 8), (.q (.bin .lss (.tmp 5) (.tmp 7))), none⟩]) 
    (.cond (.tmp 8) .skip (.exit 0))) 
    (.seq 
    (.block 1 
    (.region [⟨(some 11), (.q (.move (.tmp 3))), none⟩, ⟨(some 12), (.q (.bin .add (.tmp 11) (.const (.str (B [47]))))), none⟩, ⟨(some 13), (.q (.move (.tmp 0))), none⟩, ⟨(some 14), (.q (.move (.tmp 4))), none⟩, ⟨(some 15), (.q (.idxSl 1 (.tmp 13) (.tmp 14))), none⟩, ⟨(some 16), (.q (.load false 1 (.tmp 15))), none⟩, ⟨(some 17), (.q (.bin .add (.tmp 12) (.tmp 16))), none⟩, ⟨(some 3), (.q (.move (.tmp 17))), none⟩])) 
    (.region [⟨(some 9), (.q (.move (.tmp 4))), none⟩, ⟨(some 10), (.q (.bin .add (.tmp 9) (.const (.int .i64 1)))), none⟩, ⟨(some 4), (.q (.move (.tmp 10))), none⟩])))))) 
    (.seq 
    (.seq 
    (.region [⟨(some 18), (.q (.move (.tmp 0))), none⟩, ⟨(some 19), (.q (.len false (.tmp 18))), none⟩, ⟨(some 20), (.q (.bin .eql (.tmp 19) (.const (.int .i64 0)))), none⟩]) 
    (.cond (.tmp 20) 
    (.seq 
    (.region [⟨(some 2), (.q (.move (.const (.str (B [47]))))), none⟩]) .ret) .skip)) 
    (.seq 
    (.region [⟨(some 21), (.q (.move (.tmp 3))), none⟩, ⟨(some 2), (.q (.move (.tmp 21))), none⟩]) .ret)))))
theorem t50 : Told Tryd.prog 50 22 c50 [(.tmp 2)] := ⟨Tryd.f50, _, [], Tryd.func50, rfl, by kernel_rfl, rfl, by kernel_rfl, by kernel_rfl⟩
def c28 : ACode := 
    (.seq 
    (.region [⟨(some 2), (.q (.move (.const .nils))), none⟩, ⟨(some 3), (.q (.move (.const (.bool false)))), none⟩]) 
    (.seq 
    (.seq 
    (.region [⟨(some 7), (.q (.move (.tmp 0))), none⟩, ⟨(some 8), (.q (.bin .eql (.tmp 7) (.const (.str (B [47]))))), none⟩]) 
    (.cond (.tmp 8) 
    (.seq 
    (.region [⟨(some 2), (.q (.move (.const .nils))), none⟩, ⟨(some 3), (.q (.move (.const (.bool true)))), none⟩]) .ret) .skip)) 
    (.seq 
    (.seq 
    (.region [⟨(some 9), (.q (.move (.tmp 0))), none⟩, ⟨(some 10), (.q (.bin .eql (.tmp 9) (.const (.str (B []))))), none⟩, ⟨(some 11), (.q (.move (.tmp 10))), none⟩, ⟨(some 12), (.q (.move (.tmp 0))), (some (11, false))⟩, ⟨(some 13), (.q (.idxStr (.tmp 12) (.const (.int .i64 0)))), (some (11, false))⟩, ⟨(some 14), (.q (.bin .neq (.tmp 13) (.const (.int .u8 47)))), (some (11, false))⟩, ⟨(some 15), (.q (.pick (.tmp 11) (.const (.bool true)) (.tmp 14))), none⟩]) 
    (.cond (.tmp 15) 
    (.seq 
    (.region [⟨(some 2), (.q (.move (.const .nils))), none⟩, ⟨(some 3), (.q (.move (.const (.bool false)))), none⟩]) .ret) .skip)) 
    (.seq 
    (.region [⟨(some 4), (.q (.move (.const .nils))), none⟩]) 
    (.seq 
    (.region [⟨(some 5), (.q (.move (.const (.int .i64 1)))), none⟩]) 
    (.seq 
    (.seq 
    (.region [⟨(some 6), (.q (.move (.const (.int .i64 1)))), none⟩]) 
    (.block 0 
    (.loop 
    (.seq 
    (.seq 
    (.region [⟨(some 16), (.q (.move (.tmp 6))), none⟩, ⟨(some 17), (.q (.move (.tmp 0))), none⟩, ⟨(some 18), (.q (.len true (.tmp 17))), none⟩, ⟨(some 19), (.q (.bin .leq (.tmp 16) (.tmp 18))), none⟩]) 
    (.cond (.tmp 19) .skip (.exit 0))) 
    (.seq 
    (.block 1 
    (.seq 
    (.seq 
    (.region [⟨(some 22), (.q (.move (.tmp 6))), none⟩, ⟨(some 23), (.q (.move (.tmp 0))), none⟩, ⟨(some 24), (.q (.len true (.tmp 23))), none⟩, ⟨(some 25), (.q (.bin .lss (.tmp 22) (.tmp 24))), none⟩, ⟨(some 26), (.q (.move (.tmp 25))), none⟩, ⟨(some 27), (.q (.move (.tmp 0))), (some (26, true))⟩, ⟨(some 28), (.q (.move (.tmp 6))), (some (26, true))⟩, ⟨(some 29), (.q (.idxStr (.tmp 27) (.tmp 28))), (some (26, true))⟩, ⟨(some 30), (.q (.bin .neq (.tmp 29) (.const (.int .u8 47)))), (some (26, true))⟩, ⟨(some 31), (.q (.pick (.tmp 26) (.tmp 30) (.const (.bool false)))), none⟩]) 
    (.cond (.tmp 31) (.exit 1) .skip)) 
    (.seq 
    (.seq 
    (.region [⟨(some 32), (.q (.move (.tmp 6))), none⟩, ⟨(some 33), (.q (.move (.tmp 5))), none⟩, ⟨(some 34), (.q (.bin .eql (.tmp 32) (.tmp 33))), none⟩, ⟨(some 35), (.q (.move (.tmp 34))), none⟩, ⟨(some 36), (.q (.move (.tmp 4))), (some (35, false))⟩, ⟨(some 37), (.q (.len false (.tmp 36))), (some (35, false))⟩, ⟨(some 38), (.q (.bin .eql (.tmp 37) (.const (.int .i64 7)))), (some (35, false))⟩, ⟨(some 39), (.q (.pick (.tmp 35) (.const (.bool true)) (.tmp 38))), none⟩]) 
    (.cond (.tmp 39) 
    (.seq 
    (.region [⟨(some 2), (.q (.move (.const .nils))), none⟩, ⟨(some 3), (.q (.move (.const (.bool false)))), none⟩]) .ret) .skip)) 
    (.seq 
    (.region [⟨(some 40), (.q (.move (.tmp 4))), none⟩, ⟨(some 41), (.q (.move (.tmp 0))), none⟩, ⟨(some 42), (.q (.move (.tmp 5))), none⟩, ⟨(some 43), (.q (.move (.tmp 6))), none⟩, ⟨(some 44), (.q (.sliceStr (.tmp 41) (some (.tmp 42)) (some (.tmp 43)))), none⟩, ⟨(some 45), (.s (.lit 9 1 [(.tmp 44)])), none⟩, ⟨(some 46), (.s (.app 9 1 16 (.tmp 40) (.tmp 45))), none⟩, ⟨(some 4), (.q (.move (.tmp 46))), none⟩]) 
    (.region [⟨(some 47), (.q (.move (.tmp 6))), none⟩, ⟨(some 48), (.q (.bin .add (.tmp 47) (.const (.int .i64 1)))), none⟩, ⟨(some 5), (.q (.move (.tmp 48))), none⟩]))))) 
    (.region [⟨(some 20), (.q (.move (.tmp 6))), none⟩, ⟨(some 21), (.q (.bin .add (.tmp 20) (.const (.int .i64 1)))), none⟩, ⟨(some 6), (.q (.move (.tmp 21))), none⟩])))))) 
    (.seq 
    (.region [⟨(some 49), (.q (.move (.tmp 4))), none⟩, ⟨(some 2), (.q (.move (.tmp 49))), none⟩, ⟨(some 3), (.q (.move (.const (.bool true)))), none⟩]) .ret)))))))
theorem t28 : Told Tryd.prog 28 50 c28 [(.tmp 2), (.tmp 3)] := ⟨Tryd.f28, _, [], Tryd.func28, rfl, by kernel_rfl, rfl, by kernel_rfl, by kernel_rfl⟩
def c29 : ACode := 
    (.seq 
    (.region [⟨(some 2), (.s (.box 25 (.tmp 0))), none⟩, ⟨(some 4), (.s (.alloc 25 [(.str (B [])), .nils, .nils])), none⟩, ⟨(some 5), (.q (.move (.const (.bool false)))), none⟩]) 
    (.seq 
    (.seq 
    (.region [⟨(some 6), (.q (.move (.const (.int .i64 0)))), none⟩]) 
    (.block 0 
    (.loop 
    (.seq 
    (.seq 
    (.region [⟨(some 7), (.q (.move (.tmp 6))), none⟩, ⟨(some 8), (.q (.fieldAddr 2 (.tmp 2))), none⟩, ⟨(some 9), (.q (.load false 1 (.tmp 8))), none⟩, ⟨(some 10), (.q (.len false (.tmp 9))), none⟩, ⟨(some 11), (.q (.bin .lss (.tmp 7) (.tmp 10))), none⟩]) 
    (.cond (.tmp 11) .skip (.exit 0))) 
    (.seq 
    (.block 1 
    (.seq 
    (.region [⟨(some 14), (.q (.fieldAddr 2 (.tmp 2))), none⟩, ⟨(some 15), (.q (.load false 1 (.tmp 14))), none⟩, ⟨(some 16), (.q (.move (.tmp 6))), none⟩, ⟨(some 17), (.q (.idxSl 3 (.tmp 15) (.tmp 16))), none⟩, ⟨(some 18), (.q (.fieldAddr 0 (.tmp 17))), none⟩, ⟨(some 19), (.q (.load false 1 (.tmp 18))), none⟩, ⟨(some 20), (.q (.move (.tmp 1))), none⟩, ⟨(some 21), (.q (.bin .eql (.tmp 19) (.tmp 20))), none⟩]) 
    (.cond (.tmp 21) 
    (.seq 
    (.region [⟨(some 22), (.q (.fieldAddr 2 (.tmp 2))), none⟩, ⟨(some 23), (.q (.load false 1 (.tmp 22))), none⟩, ⟨(some 24), (.q (.move (.tmp 6))), none⟩, ⟨(some 25), (.q (.idxSl 3 (.tmp 23) (.tmp 24))), none⟩, ⟨(some 26), (.q (.load true 3 (.tmp 25))), none⟩, ⟨none, (.s (.store 3 (.tmp 4) (.tmp 26))), none⟩, ⟨(some 5), (.q (.move (.const (.bool true)))), none⟩]) .ret) .skip))) 
    (.region [⟨(some 12), (.q (.move (.tmp 6))), none⟩, ⟨(some 13), (.q (.bin .add (.tmp 12) (.const (.int .i64 1)))), none⟩, ⟨(some 6), (.q (.move (.tmp 13))), none⟩])))))) 
    (.seq 
    (.region [⟨(some 27), (.q (.build [(.str (B [])), .nils, .nils] [])), none⟩, ⟨none, (.s (.store 3 (.tmp 4) (.tmp 27))), none⟩, ⟨(some 5), (.q (.move (.const (.bool false)))), none⟩]) .ret)))
theorem t29 : Told Tryd.prog 29 28 c29 [(.cell 4 true 3), (.tmp 5)] := ⟨Tryd.f29, _, [], Tryd.func29, rfl, by kernel_rfl, rfl, by kernel_rfl, by kernel_rfl⟩
def c13 : ACode := 
    (.seq 
    (.region [⟨(some 2), (.s (.box 25 (.tmp 0))), none⟩, ⟨(some 4), (.s (.alloc 25 [(.str (B [])), .nils, .nils])), none⟩, ⟨(some 5), (.q (.move (.const (.bool false)))), none⟩]) 
    (.seq 
    (.region [⟨(some 12), (.q (.move (.tmp 1))), none⟩, ⟨(some 13), (.s (.call 28 [(.tmp 12)])), none⟩, ⟨(some 11), (.q (.move (.tmp 13))), none⟩, ⟨(some 14), (.q (.extract 0 (.tmp 11))), none⟩, ⟨(some 15), (.q (.extract 1 (.tmp 11))), none⟩, ⟨(some 6), (.q (.move (.tmp 14))), none⟩, ⟨(some 7), (.q (.move (.tmp 15))), none⟩]) 
    (.seq 
    (.seq 
    (.region [⟨(some 16), (.q (.move (.tmp 7))), none⟩, ⟨(some 17), (.q (.un .not (.tmp 16))), none⟩]) 
    (.cond (.tmp 17) 
    (.seq 
    (.region [⟨(some 18), (.q (.build [(.str (B [])), .nils, .nils] [])), none⟩, ⟨none, (.s (.store 3 (.tmp 4) (.tmp 18))), none⟩, ⟨(some 5), (.q (.move (.const (.bool false)))), none⟩]) .ret) .skip)) 
    (.seq 
    (.seq 
    (.region [⟨(some 8), (.q (.move (.const (.int .i64 0)))), none⟩]) 
    (.block 0 
    (.loop 
    (.seq 
    (.seq 
    (.region [⟨(some 19), (.q (.move (.tmp 8))), none⟩, ⟨(some 20), (.q (.move (.tmp 6))), none⟩, ⟨(some 21), (.q (.len false (.tmp 20))), none⟩, ⟨(some 22), (.q (.bin .lss (.tmp 19) (.tmp 21))), none⟩]) 
    (.cond (.tmp 22) .skip (.exit 0))) 
    (.seq 
    (.block 1 
    (.seq 
    (.regionN 10 [⟨(some 26), (.q (.load true 3 (.tmp 2))), none⟩, ⟨(some 27), (.q (.move (.tmp 6))), none⟩, ⟨(some 28), (.q (.move (.tmp 8))), none⟩, ⟨(some 29), (.q (.idxSl 1 (.tmp 27) (.tmp 28))), none⟩, ⟨(some 30), (.q (.load false 1 (.tmp 29))), none⟩, ⟨(some 9), (.q (.move (.const .top))), none⟩, ⟨(some 31), (.s (.call 29 [(.tmp 26), (.tmp 30)])), none⟩, ⟨(some 25), (.q (.move (.tmp 31))), none⟩, ⟨(some 32), (.q (.extract 0 (.tmp 25))), none⟩, ⟨(some 33), (.q (.extract 1 (.tmp 25))), none⟩, ⟨(some 9), (.s (.put 25 3 (.tmp 32))), none⟩, ⟨(some 10), (.q (.move (.tmp 33))), none⟩]) 
    (.seq 
    (.seq 
    (.region [⟨(some 34), (.q (.move (.tmp 10))), none⟩, ⟨(some 35), (.q (.un .not (.tmp 34))), none⟩]) 
    (.cond (.tmp 35) 
    (.seq 
    (.region [⟨(some 36), (.q (.build [(.str (B [])), .nils, .nils] [])), none⟩, ⟨none, (.s (.store 3 (.tmp 4) (.tmp 36))), none⟩, ⟨(some 5), (.q (.move (.const (.bool false)))), none⟩]) .ret) .skip)) 
    (.region [⟨(some 37), (.q (.load true 3 (.tmp 9))), none⟩, ⟨none, (.s (.store 3 (.tmp 2) (.tmp 37))), none⟩])))) 
    (.region [⟨(some 23), (.q (.move (.tmp 8))), none⟩, ⟨(some 24), (.q (.bin .add (.tmp 23) (.const (.int .i64 1)))), none⟩, ⟨(some 8), (.q (.move (.tmp 24))), none⟩])))))) 
    (.seq 
    (.region [⟨(some 38), (.q (.load true 3 (.tmp 2))), none⟩, ⟨none, (.s (.store 3 (.tmp 4) (.tmp 38))), none⟩, ⟨(some 5), (.q (.move (.const (.bool true)))), none⟩]) .ret)))))
theorem t13 : Told Tryd.prog 13 39 c13 [(.cell 4 true 3), (.tmp 5)] := ⟨Tryd.f13, _, [], Tryd.func13, rfl, by kernel_rfl, rfl, by kernel_rfl, by kernel_rfl⟩
def tFits (t : Tr) : Bool := decide ((tcount 9 t).1 ≤ 64) && decide ((tcount 9 t).2.1 ≤ 256) && decide ((tcount 9 t).2.2 ≤ 8)
theorem trCount_a {t : Tr} (ho : TrOk t) {H : AHeap} {K : AV → AHeap → Prop} (h : K (.tup [.int .i64 (tcount 9 t).1, .int .i64 (tcount 9 t).2.1, .int .i64 (tcount 9 t).2.2]) H) : (ACalls Tryd.prog) 63 [t.V] H K := by
  refine acalls_go mo t63 (fun hs hu => ?_)
  have hVi := Tr.V_is t
  simp only [c63, Tr.V_is, go_sem, Nat.reduceLeDiff, Nat.reduceAdd, Nat.reduceSub, Nat.reduceMul, Nat.reduceLT, Int.reduceLT, Int.reduceLE, Int.reduceAdd, Int.reduceSub, Int.reduceMul, Int.reduceToNat, Int.reduceNeg, Int.reduceEq, Nat.reducePow, Int.reducePow, Nat.reduceEqDiff, decide_true, decide_false, reduceIte, reduceCtorEq, Int.reduceBEq, Int.reduceBNe, bne_self_eq_false, Int.cast_ofNat_Int, Bool.not_true, Bool.not_false, IntKind.bits]
  rw [← hVi]
  refine tcount_a 9 t _ _ (by omega) ho ?_
  generalize tcount 9 t = c at *
  refine stp0 ?_
  exact aret_u hs (h)
theorem trFits_a {t : Tr} (ho : TrOk t) {H : AHeap} {K : AV → AHeap → Prop} (h : K (.bool (tFits t)) H) : (ACalls Tryd.prog) 64 [t.V] H K := by
  refine acalls_go mo t64 (fun hs hu => ?_)
  have hVi := Tr.V_is t
  unfold tFits at h
  simp only [c64, Tr.V_is, go_sem, Nat.reduceLeDiff, Nat.reduceAdd, Nat.reduceSub, Nat.reduceMul, Nat.reduceLT, Int.reduceLT, Int.reduceLE, Int.reduceAdd, Int.reduceSub, Int.reduceMul, Int.reduceToNat, Int.reduceNeg, Int.reduceEq, Nat.reducePow, Int.reducePow, Nat.reduceEqDiff, decide_true, decide_false, reduceIte, reduceCtorEq, Int.reduceBEq, Int.reduceBNe, bne_self_eq_false, Int.cast_ofNat_Int, Bool.not_true, Bool.not_false, IntKind.bits]
  rw [← hVi]
  refine trCount_a ho ?_
  generalize tcount 9 t = c at *
  by_cases h1 : c.1 ≤ 64
  · rw [decide_eq_true h1, Bool.true_and] at h
    by_cases h2 : c.2.1 ≤ 256
    · rw [decide_eq_true h2, Bool.true_and] at h
      refine stp0 ?_
      exact aret_u hs (h)
    · rw [decide_eq_false h2, Bool.false_and] at h
      refine stp0 ?_
      exact aret_u hs (h)
  · rw [decide_eq_false h1, Bool.false_and, Bool.false_and] at h
    refine stp0 ?_
    exact aret_u hs (h)
def accRow (a : Int × Int × Int) : AObj := .row 52 0 [.int .i64 a.1, .int .i64 a.2.1, .int .i64 a.2.2]
theorem accRow_is (a : Int × Int × Int) : accRow a = .row 52 0 [.int .i64 a.1, .int .i64 a.2.1, .int .i64 a.2.2] := rfl
theorem rcount_a : ∀ (l : Nat) (t : Tr) (H : AHeap) (K : AV → AHeap → Prop), l ≤ 100 → TrOk t → K (.agg [.int .i64 (tcount l t).1, .int .i64 (tcount l t).2.1, .int .i64 (tcount l t).2.2]) H → (ACalls Tryd.prog) 52 [t.V, .int .i64 (l : Int)] H K
  | 0, t, H, K, hl, ho, h => by
    refine acalls_go mo t52 (fun hs hu => ?_)
    rw [tcount] at h
    simp only [c52, Tr.V_is, Int.ofNat_zero, Int.natCast_zero, go_sem, Nat.reduceLeDiff, Nat.reduceAdd, Nat.reduceSub, Nat.reduceMul, Nat.reduceLT, Int.reduceLT, Int.reduceLE, Int.reduceAdd, Int.reduceSub, Int.reduceMul, Int.reduceToNat, Int.reduceNeg, Int.reduceEq, Nat.reducePow, Int.reducePow, Nat.reduceEqDiff, decide_true, decide_false, reduceIte, reduceCtorEq, Int.reduceBEq, Int.reduceBNe, bne_self_eq_false, Int.cast_ofNat_Int, Bool.not_true, Bool.not_false, IntKind.bits]
    exact aret_u hs (h)
  | l + 1, t, H, K, hl, ho, h => by
    refine acalls_go mo t52 (fun hs hu => ?_)
    have ih := rcount_a l
    rw [tcount] at h
    have hkl := ho.k
    simp only [c52, Tr.V_is, go_sem, Nat.reduceLeDiff, Nat.reduceAdd, Nat.reduceSub, Nat.reduceMul, Nat.reduceLT, Int.reduceLT, Int.reduceLE, Int.reduceAdd, Int.reduceSub, Int.reduceMul, Int.reduceToNat, Int.reduceNeg, Int.reduceEq, Nat.reducePow, Int.reducePow, Nat.reduceEqDiff, decide_true, decide_false, reduceIte, reduceCtorEq, Int.reduceBEq, Int.reduceBNe, bne_self_eq_false, Int.cast_ofNat_Int, Bool.not_true, Bool.not_false, IntKind.bits]
    refine stp0 ?_
    rw [← hp_nil (H := hp H _)]
    have hH2 : H.next + 2 < (hp H [trRow t, accRow (0, 0, 0), accRow (1, (t.props.length : Int), 0)]).next := by rw [hp_next]; simp
    refine go_loopS mono (σ := AHeap × Nat) (fun z => [(6, .int .i64 (z.2 : Int))]) (fun z => hp z.1 []) (fun z => Past H z.1 ∧ z.2 ≤ t.kids.length ∧ z.1.get (H.next + 0) = some (trRow t) ∧ (∃ o, z.1.get (H.next + 1) = some (accRow o)) ∧ z.1.get (H.next + 2) = some (accRow ((t.kids.take z.2).foldl (cstep (tcount l)) (1, (t.props.length : Int), 0)))) (fun z => t.kids.length - z.2) (hp H [trRow t, accRow (0, 0, 0), accRow (1, (t.props.length : Int), 0)], 0) ?_ rfl ⟨past_hp past_refl _, Nat.zero_le _, hp_get _ _ 0, ⟨_, hp_get _ _ 1⟩, hp_get _ _ 2⟩ (fun z hz J hJ => ?_)
    · exact fgt
    obtain ⟨G, i⟩ := z
    obtain ⟨hG, hil, hg0, ⟨o1, hg1⟩, hg2⟩ := hz
    simp only at hG hil hg0 hg1 hg2
    have hl0 := G.lt hg0
    have hl1 := G.lt hg1
    have hl2 := G.lt hg2
    have hg0' := hg0
    rw [trRow_is] at hg0'
    simp only [blurR_nil, blurR_some, blurR_none, blurC_region, blurC_regionN, blurC_fregion, blurT_nil, blurT_cons, blurC_seq, blurC_both, blurC_cond, blurC_block, blurC_loop, blurC_skip, blurC_exit, blurC_ret, tellS_nil, tellS_cons, List.set_cons_zero, List.set_cons_succ, tops_zero, tops_succ]
    by_cases h1 : i < t.kids.length
    · have ha := tr_at h1
      have hok := ho.ks _ (tr_mem h1)
      have hst := foldl_step (cstep (tcount l)) (1, (t.props.length : Int), 0) tr0 h1
      have hJ2 := fun (G2 : AHeap) (p1 : Past H G2) p2 p3 p4 a' => hJ (G2, i + 1) a' ⟨p1, h1, p2, p3, p4⟩ (by show t.kids.length - (i + 1) < t.kids.length - i; omega)
      clear hJ
      simp only [hst] at hJ2
      generalize t.kids.getD i tr0 = k at *
      generalize (t.kids.take i).foldl (cstep (tcount l)) (1, (t.props.length : Int), 0) = acc at *
      have hVc := Tr.V_cells k
      have hVi := Tr.V_is k
      refine stp (And.intro ha (And.intro hVc hg0')) ?_
      rw [← hVi]
      refine ih _ _ _ (by omega) hok ?_
      unfold cstep at hJ2
      generalize tcount l k = c at *
      have hb : (if acc.2.2 < c.2.2 then AV.int .i64 c.2.2 else AV.int .i64 acc.2.2) = .int .i64 (mxI acc.2.2 c.2.2) := by unfold mxI; split <;> rfl
      have hb2 : (if acc.2.2 < c.2.2 then c.2.2 else acc.2.2) = mxI acc.2.2 c.2.2 := rfl
      rw [accRow_is] at hg2
      refine stp (And.intro hb (And.intro hb2 hg2)) ?_
      simp only [wI, accRow_is] at hJ2
      rw [← hp_nil (H := hp (G.set _ _) _)]
      refine hJ2 _ (past_hp (past_set hG (by omega) _) _) ?_ ⟨o1, ?_⟩ ?_ _ fgt
      · rw [hp_old (by rw [set_next]; omega), set_other (by omega), hg0]
      · rw [hp_old (by rw [set_next]; omega), set_other (by omega), hg1]
        rfl
      · rw [hp_old (by rw [set_next]; omega), set_got (by omega)]
    · rw [List.take_of_length_le (by omega)] at hg2
      generalize t.kids.foldl (cstep (tcount l)) (1, (t.props.length : Int), 0) = acc at *
      simp only [wI] at h
      rw [accRow_is] at hg1 hg2
      refine stp (And.intro hg0' (And.intro hg1 hg2)) ?_
      exact aret_past (past_hp (past_set (past_set hG (by omega) _) (by omega) _) []) hs (by simp only [u_top, u_bool, u_int, u_str, u_nilp, u_nils, u_nilf, u_nilm, u_nili, u_emp, u_byteV, u_ptr, u_wr, u_wc, u_agg, u_tup, u_rd, u_imm, u_func, u_nil, u_cons, u_app, uc_nil, uc_cons, uc_app, u_bytes, uc_bytes, u_ints, uc_ints, cells_bool, cells_int, cells_str, cells_agg, cells_ptr, cells_nils, cells_imm, cells_wr, cells_wc, cells_nilp, cells_nilf, cells_nilm, cells_rd, cells_emp, cells_byteV, cells_func, and_self, and_true, true_and, u_slA, uc_strs, cells_slA, strV_is]) h
theorem rCount_a {t : Tr} (ho : TrOk t) {H : AHeap} {K : AV → AHeap → Prop} (h : K (.agg [.int .i64 (tcount 9 t).1, .int .i64 (tcount 9 t).2.1, .int .i64 (tcount 9 t).2.2]) H) : (ACalls Tryd.prog) 27 [t.V] H K := by
  refine acalls_go mo t27 (fun hs hu => ?_)
  have hVi := Tr.V_is t
  simp only [c27, Tr.V_is, go_sem, Nat.reduceLeDiff, Nat.reduceAdd, Nat.reduceSub, Nat.reduceMul, Nat.reduceLT, Int.reduceLT, Int.reduceLE, Int.reduceAdd, Int.reduceSub, Int.reduceMul, Int.reduceToNat, Int.reduceNeg, Int.reduceEq, Nat.reducePow, Int.reducePow, Nat.reduceEqDiff, decide_true, decide_false, reduceIte, reduceCtorEq, Int.reduceBEq, Int.reduceBNe, bne_self_eq_false, Int.cast_ofNat_Int, Bool.not_true, Bool.not_false, IntKind.bits]
  rw [← hVi]
  refine rcount_a 9 t _ _ (by omega) ho ?_
  generalize tcount 9 t = c at *
  refine stp0 ?_
  exact aret_u hs (h)
theorem rFits_a {t : Tr} (ho : TrOk t) {H : AHeap} {K : AV → AHeap → Prop} (h : K (.bool (tFits t)) H) : (ACalls Tryd.prog) 12 [t.V] H K := by
  refine acalls_go mo t12 (fun hs hu => ?_)
  have hVi := Tr.V_is t
  unfold tFits at h
  simp only [c12, Tr.V_is, go_sem, Nat.reduceLeDiff, Nat.reduceAdd, Nat.reduceSub, Nat.reduceMul, Nat.reduceLT, Int.reduceLT, Int.reduceLE, Int.reduceAdd, Int.reduceSub, Int.reduceMul, Int.reduceToNat, Int.reduceNeg, Int.reduceEq, Nat.reducePow, Int.reducePow, Nat.reduceEqDiff, decide_true, decide_false, reduceIte, reduceCtorEq, Int.reduceBEq, Int.reduceBNe, bne_self_eq_false, Int.cast_ofNat_Int, Bool.not_true, Bool.not_false, IntKind.bits]
  rw [← hVi]
  refine rCount_a ho ?_
  generalize tcount 9 t = c at *
  by_cases h1 : c.1 ≤ 64
  · rw [decide_eq_true h1, Bool.true_and] at h
    by_cases h2 : c.2.1 ≤ 256
    · rw [decide_eq_true h2, Bool.true_and] at h
      refine stp0 ?_
      exact aret_u hs (h)
    · rw [decide_eq_false h2, Bool.false_and] at h
      refine stp0 ?_
      exact aret_u hs (h)
  · rw [decide_eq_false h1, Bool.false_and, Bool.false_and] at h
    refine stp0 ?_
    exact aret_u hs (h)
/-! ### low trees -/
def plow (p : List UInt8 × List UInt8) : Bool := decide (p.1.length ≤ 100) && decide (p.2.length ≤ 300)
def tlow : Nat → Tr → Bool
  | 0, _ => false
  | l + 1, t => decide (t.name.length ≤ 100) && decide (t.props.length ≤ 300) && decide (t.kids.length ≤ 80) && t.props.all plow && t.kids.all (tlow l)
theorem low_a : ∀ (l : Nat) (t : Tr) (H : AHeap) (K : AV → AHeap → Prop), l ≤ 100 → TrOk t → K (.bool (tlow l t)) H → (ACalls Tryd.prog) 19 [t.V, .int .i64 (l : Int)] H K
  | 0, t, H, K, hl, ho, h => by
    refine acalls_go mo t19 (fun hs hu => ?_)
    rw [tlow] at h
    simp only [c19, Tr.V_is, Int.ofNat_zero, Int.natCast_zero, go_sem, Nat.reduceLeDiff, Nat.reduceAdd, Nat.reduceSub, Nat.reduceMul, Nat.reduceLT, Int.reduceLT, Int.reduceLE, Int.reduceAdd, Int.reduceSub, Int.reduceMul, Int.reduceToNat, Int.reduceNeg, Int.reduceEq, Nat.reducePow, Int.reducePow, Nat.reduceEqDiff, decide_true, decide_false, reduceIte, reduceCtorEq, Int.reduceBEq, Int.reduceBNe, bne_self_eq_false, Int.cast_ofNat_Int, Bool.not_true, Bool.not_false, IntKind.bits]
    exact aret_u hs (h)
  | l + 1, t, H, K, hl, ho, h => by
    refine acalls_go mo t19 (fun hs hu => ?_)
    have ih := low_a l
    rw [tlow] at h
    have hkl := ho.k
    have hpl := ho.p
    simp only [c19, Tr.V_is, go_sem, Nat.reduceLeDiff, Nat.reduceAdd, Nat.reduceSub, Nat.reduceMul, Nat.reduceLT, Int.reduceLT, Int.reduceLE, Int.reduceAdd, Int.reduceSub, Int.reduceMul, Int.reduceToNat, Int.reduceNeg, Int.reduceEq, Nat.reducePow, Int.reducePow, Nat.reduceEqDiff, decide_true, decide_false, reduceIte, reduceCtorEq, Int.reduceBEq, Int.reduceBNe, bne_self_eq_false, Int.cast_ofNat_Int, Bool.not_true, Bool.not_false, IntKind.bits]
    by_cases h1 : t.name.length ≤ 100
    · by_cases h2 : t.props.length ≤ 300
      · by_cases h3 : t.kids.length ≤ 80
        · rw [decide_eq_true h1, decide_eq_true h2, decide_eq_true h3, Bool.true_and, Bool.true_and, Bool.true_and] at h
          refine stp0 ?_
          refine go_loopS mono (σ := Nat) (fun i => [(5, .int .i64 (i : Int))]) (fun i => hp H [trRow t]) (fun i => i ≤ t.props.length ∧ (t.props.take i).all plow = true) (fun i => t.props.length - i) 0 ?_ rfl ⟨Nat.zero_le _, rfl⟩ (fun i hi J hJ => ?_)
          · exact fgt
          obtain ⟨hil, hall⟩ := hi
          simp only [blurR_nil, blurR_some, blurR_none, blurC_region, blurC_regionN, blurC_fregion, blurT_nil, blurT_cons, blurC_seq, blurC_both, blurC_cond, blurC_block, blurC_loop, blurC_skip, blurC_exit, blurC_ret, tellS_nil, tellS_cons, List.set_cons_zero, List.set_cons_succ, tops_zero, tops_succ]
          by_cases h4 : i < t.props.length
          · have ha := prop_at h4
            have hst := all_step (p := plow) (d := ([], [])) h4
            have hno := all_stop (p := plow) (n := t.props.length) (d := ([], [])) h4 h4
            have hJ2 : plow (t.props.getD i ([], [])) = true → ∀ a', _ := fun hq a' => hJ (i + 1) a' ⟨h4, by rw [hst, hall, hq]; rfl⟩ (by omega)
            have hstop : plow (t.props.getD i ([], [])) = false → K (.bool false) H := fun hq => by
              have h9 := hno hq
              rw [List.take_length] at h9
              rw [h9, Bool.false_and] at h
              exact h
            clear hJ hst hno h
            generalize t.props.getD i ([], []) = p at *
            unfold plow at hJ2 hstop
            by_cases h5 : p.1.length ≤ 100
            · by_cases h6 : p.2.length ≤ 300
              · refine stp (And.intro ha (And.intro @propV_cells @trRow_is)) ?_
                exact hJ2 (by rw [decide_eq_true h5, decide_eq_true h6]; rfl) _ fgt
              · have h := hstop (by rw [decide_eq_false h6, Bool.and_false])
                refine stp (And.intro ha (And.intro @propV_cells @trRow_is)) ?_
                exact aret_u hs (h)
            · have h := hstop (by rw [decide_eq_false h5, Bool.false_and])
              refine stp (And.intro ha (And.intro @propV_cells @trRow_is)) ?_
              exact aret_u hs (h)
          · rw [List.take_of_length_le (by omega)] at hall
            rw [hall, Bool.true_and] at h
            clear hJ
            refine stp @trRow_is ?_
            refine go_loopS mono (σ := Nat) (fun i => [(6, .int .i64 (i : Int))]) (fun i => hp H [trRow t]) (fun i => i ≤ t.kids.length ∧ (t.kids.take i).all (tlow l) = true) (fun i => t.kids.length - i) 0 ?_ rfl ⟨Nat.zero_le _, rfl⟩ (fun i2 hi J hJ => ?_)
            · exact fgt
            obtain ⟨hil2, hall2⟩ := hi
            simp only [blurR_nil, blurR_some, blurR_none, blurC_region, blurC_regionN, blurC_fregion, blurT_nil, blurT_cons, blurC_seq, blurC_both, blurC_cond, blurC_block, blurC_loop, blurC_skip, blurC_exit, blurC_ret, tellS_nil, tellS_cons, List.set_cons_zero, List.set_cons_succ, tops_zero, tops_succ]
            by_cases h7 : i2 < t.kids.length
            · have ha := tr_at h7
              have hok := ho.ks _ (tr_mem h7)
              have hst := all_step (p := tlow l) (d := tr0) h7
              have hno := all_stop (p := tlow l) (n := t.kids.length) (d := tr0) h7 h7
              generalize t.kids.getD i2 tr0 = k at *
              have hVc := Tr.V_cells k
              have hVi := Tr.V_is k
              refine stp (And.intro ha (And.intro hVc @trRow_is)) ?_
              rw [← hVi]
              refine ih _ _ _ (by omega) hok ?_
              cases h8 : tlow l k with
              | true =>
                refine stp0 ?_
                exact hJ (i2 + 1) _ ⟨h7, by rw [hst, hall2, h8]; rfl⟩ (by omega) fgt
              | false =>
                have h9 := hno h8
                rw [List.take_length] at h9
                rw [h9] at h
                refine stp0 ?_
                exact aret_u hs (h)
            · rw [List.take_of_length_le (by omega)] at hall2
              rw [hall2] at h
              refine stp @trRow_is ?_
              exact aret_u hs (h)
        · rw [decide_eq_false h3, Bool.and_false, Bool.false_and, Bool.false_and] at h
          refine stp0 ?_
          exact aret_u hs (h)
      · rw [decide_eq_false h2, Bool.and_false, Bool.false_and, Bool.false_and, Bool.false_and] at h
        refine stp0 ?_
        exact aret_u hs (h)
    · rw [decide_eq_false h1, Bool.false_and, Bool.false_and, Bool.false_and, Bool.false_and] at h
      refine stp0 ?_
      exact aret_u hs (h)
def szLoop (f : Tr → Nat) : Nat → List Tr → Nat
  | a, [] => a
  | a, k :: ks => if a < 1000 then szLoop f (a + f k) ks else a
def tsize : Nat → Tr → Nat
  | 0, _ => 0
  | l + 1, t => szLoop (tsize l) (1 + t.props.length) t.kids
theorem szLoop_le (f : Tr → Nat) (b : Nat) : ∀ (ks : List Tr) (a : Nat), (∀ k ∈ ks, f k ≤ b) → szLoop f a ks ≤ max a (999 + b)
  | [], a, _ => by rw [szLoop]; omega
  | k :: ks, a, h => by
    rw [szLoop]
    split
    · have := szLoop_le f b ks (a + f k) (fun x hx => h x (by simp [hx]))
      have := h k (by simp)
      omega
    · omega
theorem tsize_le : ∀ (l : Nat) (t : Tr), tlow l t = true → tsize l t ≤ 1000 * l
  | 0, t, h => by rw [tsize]; omega
  | l + 1, t, h => by
    rw [tlow] at h
    simp only [Bool.and_eq_true, decide_eq_true_eq, List.all_eq_true] at h
    have := szLoop_le (tsize l) (1000 * l) t.kids (1 + t.props.length) (fun k hk => tsize_le l k (h.2 k hk))
    rw [tsize]
    omega
theorem size_a : ∀ (l : Nat) (t : Tr) (H : AHeap) (K : AV → AHeap → Prop), l ≤ 100 → TrOk t → tlow l t = true → K (.int .i64 (tsize l t : Int)) H → (ACalls Tryd.prog) 20 [t.V, .int .i64 (l : Int)] H K
  | 0, t, H, K, hl, ho, hw, h => by
    rw [tlow] at hw
    cases hw
  | l + 1, t, H, K, hl, ho, hw, h => by
    refine acalls_go mo t20 (fun hs hu => ?_)
    have ih := size_a l
    rw [tsize] at h
    rw [tlow] at hw
    simp only [Bool.and_eq_true, decide_eq_true_eq, List.all_eq_true] at hw
    obtain ⟨⟨⟨⟨w1, w2⟩, w3⟩, w4⟩, w5⟩ := hw
    simp only [c20, Tr.V_is, go_sem, Nat.reduceLeDiff, Nat.reduceAdd, Nat.reduceSub, Nat.reduceMul, Nat.reduceLT, Int.reduceLT, Int.reduceLE, Int.reduceAdd, Int.reduceSub, Int.reduceMul, Int.reduceToNat, Int.reduceNeg, Int.reduceEq, Nat.reducePow, Int.reducePow, Nat.reduceEqDiff, decide_true, decide_false, reduceIte, reduceCtorEq, Int.reduceBEq, Int.reduceBNe, bne_self_eq_false, Int.cast_ofNat_Int, Bool.not_true, Bool.not_false, IntKind.bits]
    refine stp0 ?_
    refine go_loopS mono (σ := Nat × Nat) (fun z => [(5, .int .i64 (z.1 : Int)), (6, .int .i64 (z.2 : Int))]) (fun z => hp H [trRow t]) (fun z => z.2 ≤ t.kids.length ∧ z.1 ≤ 1000 * (l + 1) ∧ szLoop (tsize l) z.1 (t.kids.drop z.2) = szLoop (tsize l) (1 + t.props.length) t.kids) (fun z => t.kids.length - z.2) (1 + t.props.length, 0) ?_ rfl ⟨Nat.zero_le _, by omega, rfl⟩ (fun z hz J hJ => ?_)
    · exact fgt
    obtain ⟨a, i⟩ := z
    obtain ⟨hil, hal, heq⟩ := hz
    simp only at hil hal heq
    simp only [blurR_nil, blurR_some, blurR_none, blurC_region, blurC_regionN, blurC_fregion, blurT_nil, blurT_cons, blurC_seq, blurC_both, blurC_cond, blurC_block, blurC_loop, blurC_skip, blurC_exit, blurC_ret, tellS_nil, tellS_cons, List.set_cons_zero, List.set_cons_succ, tops_zero, tops_succ]
    by_cases h1 : i < t.kids.length
    · rw [List.drop_eq_getElem_cons h1, szLoop] at heq
      by_cases h2 : a < 1000
      · rw [if_pos h2] at heq
        have he : t.kids[i] = t.kids.getD i tr0 := by rw [List.getD_eq_getElem?_getD, List.getElem?_eq_getElem h1]; rfl
        rw [he] at heq
        have ha := tr_at h1
        have hok := ho.ks _ (tr_mem h1)
        have hlo := w5 _ (tr_mem h1)
        have hsz := tsize_le l _ hlo
        generalize t.kids.getD i tr0 = k at *
        have hVc := Tr.V_cells k
        have hVi := Tr.V_is k
        refine stp (And.intro ha (And.intro hVc @trRow_is)) ?_
        rw [← hVi]
        refine ih _ _ _ (by omega) hok hlo ?_
        refine stp0 ?_
        exact hJ (a + tsize l k, i + 1) _ ⟨h1, by show a + tsize l k ≤ 1000 * (l + 1); omega, heq⟩ (by show t.kids.length - (i + 1) < t.kids.length - i; omega) fgt
      · rw [if_neg h2] at heq
        rw [← heq] at h
        refine stp @trRow_is ?_
        exact aret_u hs (h)
    · rw [List.drop_of_length_le (by omega), szLoop] at heq
      rw [← heq] at h
      refine stp @trRow_is ?_
      exact aret_u hs (h)
def tLow (t : Tr) : Bool := tlow 12 t && decide (tsize 12 t ≤ 400)
theorem Low_a {t : Tr} (ho : TrOk t) {H : AHeap} {K : AV → AHeap → Prop} (h : K (.bool (tLow t)) H) : (ACalls Tryd.prog) 5 [t.V] H K := by
  refine acalls_go mo t5 (fun hs hu => ?_)
  have hVi := Tr.V_is t
  unfold tLow at h
  simp only [c5, Tr.V_is, go_sem, Nat.reduceLeDiff, Nat.reduceAdd, Nat.reduceSub, Nat.reduceMul, Nat.reduceLT, Int.reduceLT, Int.reduceLE, Int.reduceAdd, Int.reduceSub, Int.reduceMul, Int.reduceToNat, Int.reduceNeg, Int.reduceEq, Nat.reducePow, Int.reducePow, Nat.reduceEqDiff, decide_true, decide_false, reduceIte, reduceCtorEq, Int.reduceBEq, Int.reduceBNe, bne_self_eq_false, Int.cast_ofNat_Int, Bool.not_true, Bool.not_false, IntKind.bits]
  rw [← hVi]
  refine low_a 12 t _ _ (by omega) ho ?_
  cases h1 : tlow 12 t with
  | true =>
    rw [h1, Bool.true_and] at h
    refine stp0 ?_
    rw [← hVi]
    refine size_a 12 t _ _ (by omega) ho h1 ?_
    refine stp0 ?_
    exact aret_u hs (h)
  | false =>
    rw [h1, Bool.false_and] at h
    refine stp0 ?_
    exact aret_u hs (h)
section
variable {H : AHeap} {K : AV → AHeap → Prop}
end
theorem szLoop_sum (f : Tr → Nat) : ∀ (ks : List Tr) (a : Nat), szLoop f a ks ≤ 999 → szLoop f a ks = a + (ks.map f).sum
  | [], a, _ => by rw [szLoop]; simp
  | k :: ks, a, h => by
    rw [szLoop] at h ⊢
    split at h
    · rw [if_pos (by assumption), szLoop_sum f ks _ h, List.map_cons, List.sum_cons]
      omega
    · rename_i h2
      omega
theorem sum_le {ks : List Tr} {f : Tr → Nat} {k : Tr} (h : k ∈ ks) : f k ≤ (ks.map f).sum := by
  induction ks with
  | nil => cases h
  | cons x xs ih =>
    rw [List.map_cons, List.sum_cons]
    rcases List.mem_cons.1 h with rfl | h
    · omega
    · have := ih h
      omega
theorem flat_len_le {β : Type} (f : Tr → List β) (g : Tr → Nat) : ∀ (ks : List Tr), (∀ k ∈ ks, (f k).length ≤ g k) → (ks.flatMap f).length ≤ (ks.map g).sum
  | [], _ => by simp
  | k :: ks, h => by
    have := flat_len_le f g ks (fun x hx => h x (by simp [hx]))
    have := h k (by simp)
    rw [List.flatMap_cons, List.length_append, List.map_cons, List.sum_cons]
    omega
theorem flat_step {α β : Type} (f : α → List β) {l : List α} {i : Nat} {d : α} (h : i < l.length) : (l.take (i + 1)).flatMap f = (l.take i).flatMap f ++ f (l.getD i d) := by
  rw [List.take_add_one, List.getElem?_eq_getElem h, List.flatMap_append, List.getD_eq_getElem?_getD, List.getElem?_eq_getElem h]
  simp
theorem flat_take_le {α β : Type} (f : α → List β) (l : List α) (i : Nat) : ((l.take i).flatMap f).length ≤ (l.flatMap f).length := by
  conv => rhs; rw [← List.take_append_drop i l, List.flatMap_append, List.length_append]
  omega
end Go.Proofs.YtdknpnmdjjmapaaDoor.AL
