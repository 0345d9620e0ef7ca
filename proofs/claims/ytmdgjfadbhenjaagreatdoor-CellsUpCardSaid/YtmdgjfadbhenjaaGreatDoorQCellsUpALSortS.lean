/- The library's SortFunc, laid at this program's spans, as a told call. -/
import Derived.Test.YtmdgjfadbhenjaaGreatDoorQCellsUpALCe5
import Derived.Test.YtmdgjfadbhenjaaGreatDoorProg
import Derived.KernelRfl
import Derived.Shelf.Lay
import Derived.Shelf.SlicesG.Cmp
import Derived.Ground.SlsfProg
import Derived.Ground.SlgcProg
set_option linter.unusedVariables false
set_option maxRecDepth 100000
namespace Go.Proofs
open Go.Shelf Go.RowKit Go.Lib Go.Sort
shelf_lay_g SlLaysF0.n6 Slsf 6 at Tryz 139 as Tryz.laySort
shelf_lay_g SlLaysC2.n5 Slgc 5 at Tryz 141 as Tryz.layCmp
namespace YtmdgjfadbhenjaaGreatDoor.AL
open Go Go.Proofs
set_option maxHeartbeats 1000000 in
theorem cmpSp (x y : Int × Int) (W : World) : Calls Tryz.prog 140 #[.agg #[.int .i64 x.1, .int .i64 x.2], .agg #[.int .i64 y.1, .int .i64 y.2]] W fun e w' => e = .returned (.int .i64 (Lib.compareInt x.1 y.1)) ∧ ∃ q os', w' = grow (W.drewN q) os' := by
  have hcon := fun W' => AnyG.cmp_Compare_int Tryz.layCmp x.1 y.1 W'
  change ∀ W', Calls Tryz.prog 141 _ _ _ at hcon
  generalize Lib.compareInt x.1 y.1 = r at hcon ⊢
  go_enter Tryz.func140, Tryz.ntmps140
  go_wp2_with (go_at_call 141; refine (hcon _).mono ?_; rintro e w' ⟨rfl, rfl⟩)
  go_ret
  exact ⟨rfl, 0, _, by rw [alloc_eq_grow, alloc_eq_grow, grow_grow]; rfl⟩
theorem ltA_is (x y : Int × Int) : ltOf (fun x y : Int × Int => Lib.compareInt x.1 y.1) x y = ltA x y := by
  unfold ltOf Lib.compareInt ltA
  by_cases h1 : x.1 < y.1
  · simp [h1]
  · by_cases h2 : y.1 < x.1 <;> simp [h1, h2]
theorem swoA : SWO (ltOf fun x y : Int × Int => Lib.compareInt x.1 y.1) where
  irrefl x := by rw [ltA_is]; unfold ltA; simp
  trans x y z h1 h2 := by rw [ltA_is] at *; unfold ltA at *; simp at *; omega
  ntrans x y z h1 h2 := by rw [ltA_is] at *; unfold ltA at *; simp at *; omega
theorem sort_k (b cap : Nat) (d : Array (Int × Int)) (w : World) (hH : HoldsK encSp 2 w b 0 d) (hblk : b < w.heap.size) (hsz : d.size < 4611686018427387904) :
    Calls Tryz.prog 139 #[.slice (some ⟨b, 0, none⟩) (d.size : Nat) cap, .func (.func 140) #[] #[]] w fun ee w' => ee = .returned (.tuple #[]) ∧ ∃ d' n os, PermIn 0 d.size d d' ∧ SortedIn ltA 0 d.size d' ∧ w' = sortWorldK encSp 2 w b 0 n d' os := by
  have eg : ∀ args w, (callFunc 140 args).run Tryz.prog w = .ok (.enter 140 args) w := enters_of Tryz.func140 (by kernel_rfl) rfl
  have hcon := AnyQ.slices_SortFunc Tryz.laySort 2 Tryz.isAgg93 Tryz.sizeOf93 encSp (fun _ => rfl) (fun x v hv => by simp [encSp] at hv; rcases hv with rfl | rfl <;> rfl) (fun x y => Lib.compareInt x.1 y.1) swoA 140 #[] b 0 cap d w eg (fun _ _ _ _ x y => cmpSp x y _) hH hblk hsz
  refine hcon.mono (fun e w' he => ?_)
  obtain ⟨rfl, d', n, os, hp, hs, rfl⟩ := he
  have e1 : (ltOf fun x y : Int × Int => Lib.compareInt x.1 y.1) = ltA := funext fun x => funext fun y => ltA_is x y
  rw [e1] at hs
  exact ⟨rfl, d', n, os, hp, hs, rfl⟩
theorem sortSp_a {n0 n : Nat} {ac : ACode} {rs : List RV} (hT : Told Tryz.prog 139 n ac rs) {v : AV} {e : TypeId} {l : List (Int × Int)} {H : AHeap} {K : AV → AHeap → Prop} (hv : SlAt n0 H e 2 v (l.map spnV)) (hl : l.length ≤ 1000000)
    (h : ∀ (l' : List (Int × Int)) (G : AHeap), l'.Perm l → l'.length = l.length → l'.Pairwise (fun p q => p.1 ≤ q.1) → SlAt n0 G e 2 v (l'.map spnV) → G.next = H.next → (∀ i, i < n0 → G.get i = H.get i) → K (.tup []) G) :
    (ACalls Tryz.prog) 139 [v, .func (.func 140) [] []] H K := by
  rcases hv with ⟨rfl, he⟩ | ⟨id, gen, rfl, hid, hg⟩
  · have hl0 : l = [] := by simpa using he
    subst hl0
    refine acalls_calls hT (fun g w vs hS hR => ?_)
    obtain ⟨u, f, rfl, h1, h2⟩ := reps_two hR
    obtain ⟨first, caps, rfl, h3, h4⟩ := h2.func_inv
    have h5 : u = .slice none 0 0 := by cases h1; rfl
    subst h5
    refine (AnyF.slices_SortFunc_none { Tryz.laySort with } none 0 (.func (.func 140) first caps) w).mono (fun ee w' he => ?_)
    obtain ⟨rfl, rfl⟩ := he
    exact ⟨.tuple #[], .tup [], H, g, rfl, h [] H (List.Perm.refl _) rfl .nil (.inl ⟨rfl, rfl⟩) rfl (fun _ _ => rfl), Ext.refl _ _, hS, .tup _ _ rfl (fun i v y hv hy => by simp at hy)⟩
  · rw [List.length_map]
    have hlg := H.lt hg
    refine acalls_sortSp hT hg (fun b cap w hH hb => sort_k b cap l.toArray w hH hb (by rw [List.size_toArray]; omega)) (fun l' p1 p2 p3 => ?_)
    exact h l' _ p1 p2 p3 (.inr ⟨id, gen, by rw [List.length_map, List.length_map, p2], hid, set_got hlg⟩) rfl (fun i hi => set_other (by omega))
end YtmdgjfadbhenjaaGreatDoor.AL
end Go.Proofs

/- Spans told: joined, by the program. -/
set_option linter.unusedSimpArgs false
set_option linter.unusedVariables false
set_option maxRecDepth 100000
set_option maxHeartbeats 16000000
namespace Go.Proofs.YtmdgjfadbhenjaaGreatDoor.AL
open Go Go.Proofs
attribute [local go_sem] go_seq go_skip go_region go_regionN go_fregion rgF_some go_cond go_block go_exit go_ret nxt_nil nxt_code nxt_blk nxt_cut leave_nil leave_code leave_cut leave_blk rtn_nil rtn_code rtn_blk rtn_cut cnd_t cnd_f rgn_nil rgY_some rgY_none rgH_some rgP_some retTo_is rgV_func grd_und grd_tt grd_ff grd_tf grd_ft rgn_q rgn_alloc rgn_box rgn_store rgn_lit rgn_litw rgn_litc litCells_nil litCells_cons rgn_app rgn_copy rgn_mk rgn_s2b rgn_call rgn_callv rgn_stop rgn_slice3 aslice3 rgn_slice3l aslice3l rgn_appz rgn_clear rgn_range rgn_next arange acap rgn_put rgn_mkmap rgn_lookup rgn_mapup alookup_nilm alookup_map amapup_map afound_ok afound_no rgn_c rgn_cv qclV_func aloadr rgn_guard post_ret post_normal retY_some ares aresL ares1 AX.ev aput List.getD_cons_zero List.getD_cons_succ List.set_cons_zero List.set_cons_succ List.map_cons List.map_nil aq abin aint astr abeq aconv asame aextract alenS alenL_nils alenL_emp alenL_imm alenL_wr alenL_wc aun apart aload afieldAddr afield aidxSl_wr aidxSl_wc aidxSl_imm aidxPt aidxStr aidxArr abound asliceStr asliceSl asliceArr abest anonil afill astore acells_nils acells_emp acells_imm acells_wr acells_wc acells_str acopy litAll amk as2b anil nilOf aseq aeqs aeqv fits fit1 hp_next hp_push hp_get hp_set List.length_cons List.length_nil List.getElem?_cons_zero List.getElem?_cons_succ List.cons_append List.nil_append List.append_nil List.take_succ_cons List.take_zero List.drop_succ_cons List.drop_zero List.all_cons List.all_nil Option.map_some Option.some.injEq Bool.and_true Bool.true_and Bool.false_eq_true if_true if_false ite_true ite_false Bool.and_self true_and and_true and_self Nat.zero_add Nat.le_refl Int.toNat_natCast beq_self_eq_true eq_self tops_zero tops_succ Int.natCast_nonneg List.take_nil List.drop_nil Option.map_none flat_bool one_bool cells_bool flat_int one_int cells_int flat_str one_str cells_str flat_nilp one_nilp cells_nilp flat_ptr one_ptr cells_ptr flat_nils one_nils cells_nils flat_imm one_imm cells_imm flat_wr one_wr cells_wr flat_wc one_wc cells_wc flat_func one_func cells_func flat_nilf one_nilf cells_nilf flat_map one_map cells_map flat_nilm one_nilm cells_nilm flat_iface one_iface cells_iface flat_nili one_nili cells_nili flat_rd one_rd cells_rd flat_emp one_emp cells_emp flat_byteV one_byteV cells_byteV flat_agg cells_agg one_agg B_size B_list B_ext B_toList B_app List.take_length Int.le_refl
theorem sps_snoc (o : List (Int × Int)) (q : Int × Int) : ((o ++ [q]).map spnV).flatMap AV.cells = (o.map spnV).flatMap AV.cells ++ [.int .i64 q.1, .int .i64 q.2] := by
  rw [List.map_append, List.flatMap_append]
  rfl
theorem snoc_or {α : Type} (l : List α) : l = [] ∨ ∃ o q, l = o ++ [q] := by
  refine snoc_ind (P := fun l => l = [] ∨ ∃ o q, l = o ++ [q]) (.inl rfl) (fun o q _ => .inr ⟨o, q, rfl⟩) l
theorem filter_cov {l d : List (Int × Int)} (h : d.Perm (l.filter someS)) : (∀ p ∈ d, someS p = true) ∧ ∀ b, covJ d b ↔ inL l b := by
  have hm : ∀ p, p ∈ d ↔ p ∈ l ∧ someS p = true := fun p => by rw [h.mem_iff, List.mem_filter]
  exact ⟨fun p hp => ((hm p).1 hp).2, fun b => ⟨fun ⟨p, hp, hi⟩ => ⟨p, ((hm p).1 hp).1, ((hm p).1 hp).2, hi⟩, fun ⟨p, hp, hs, hi⟩ => ⟨p, (hm p).2 ⟨hp, hs⟩, hi⟩⟩⟩
theorem sort_ord {d : List (Int × Int)} (h : d.Pairwise (fun p q => p.1 ≤ q.1)) {i : Nat} (hi : i < d.length) : ∀ p ∈ d.take i, p.1 ≤ (d.getD i (0, 0)).1 := by
  have h2 : (d.take i ++ [d.getD i (0, 0)]).Pairwise (fun p q => p.1 ≤ q.1) := by
    rw [← sp_step hi]
    exact h.sublist (List.take_sublist _ _)
  exact fun p hp => (List.pairwise_append.1 h2).2.2 p hp _ (by simp)
theorem row_set {Ro : List AV} {m : Nat} {a b n : AV} (h : Ro.length = m) : (Ro ++ [a, b]).take (m + 1) ++ [n] ++ (Ro ++ [a, b]).drop (m + 1 + 1) = Ro ++ [a, n] := by
  subst h
  rw [List.take_append, List.take_of_length_le (by omega), List.drop_append, List.drop_of_length_le (by omega)]
  simp [show Ro.length + 1 - Ro.length = 1 by omega, show Ro.length + 1 + 1 - Ro.length = 2 by omega]
section
variable {H : AHeap} {K : AV → AHeap → Prop}
theorem join1_a {y : Int × Int} (h : K (.bool (!someS y)) H) : (ACalls Tryz.prog) 138 [spnV y] H K := by
  refine acalls_go mo t138 (fun hs hu => ?_)
  simp only [c138, spV_is, go_sem, Nat.reduceLeDiff, Nat.reduceAdd, Nat.reduceSub, Nat.reduceMul, Nat.reduceLT, Int.reduceLT, Int.reduceLE, Int.reduceAdd, Int.reduceSub, Int.reduceMul, Int.reduceToNat, Int.reduceNeg, Int.reduceEq, Nat.reducePow, Int.reducePow, Nat.reduceEqDiff, decide_true, decide_false, reduceIte, reduceCtorEq, Int.reduceBEq, Int.reduceBNe, bne_self_eq_false, Int.cast_ofNat_Int, Bool.not_true, Bool.not_false, IntKind.bits]
  rw [← spV_is]
  refine some_a ?_
  refine stp0 ?_
  exact aret_u hs (h)
theorem sJoin_a {k : Nat} {l : List (Int × Int)} (hn : l.length ≤ 100000) (h : ∀ k J, JoinOf l J → J.length ≤ l.length → K (slA k 2 (J.map spnV)) H) : (ACalls Tryz.prog) 85 [slA k 2 (l.map spnV)] H K := by
  refine acalls_go mo t85 (fun hs hu => ?_)
  simp only [c85, go_sem, Nat.reduceLeDiff, Nat.reduceAdd, Nat.reduceSub, Nat.reduceMul, Nat.reduceLT, Int.reduceLT, Int.reduceLE, Int.reduceAdd, Int.reduceSub, Int.reduceMul, Int.reduceToNat, Int.reduceNeg, Int.reduceEq, Nat.reducePow, Int.reducePow, Nat.reduceEqDiff, decide_true, decide_false, reduceIte, reduceCtorEq, Int.reduceBEq, Int.reduceBNe, bne_self_eq_false, Int.cast_ofNat_Int, Bool.not_true, Bool.not_false, IntKind.bits]
  refine sclone_a (by omega) (fun v0 G1 hv0 hG1 hw1 => ?_)
  rw [hp_nil] at hv0 hG1
  rw [← hp_nil (H := G1)]
  refine stp0 ?_
  refine deleteS_a (H := hp G1 []) (p := fun q => !someS q) (cs := []) (slat_hp hv0 []) hn (fun x hx G2 K2 hk => join1_a hk) (fun v1 G2 hv1 ho1 hn1 _ => ?_)
  have hfe : l.filter (fun x => !(fun q => !someS q) x) = l.filter someS := by
    congr 1
    funext x
    simp
  rw [hfe] at hv1
  have hfl : (l.filter someS).length ≤ l.length := List.length_filter_le _ _
  have hP2 : Past H G2 := ⟨by rw [hn1, hp_nil]; exact hG1.next, fun i hi => by
    rw [ho1 i (slat_nid hv0 hi), hp_nil]
    exact hG1.get i hi⟩
  rw [← hp_nil (H := G2)]
  refine stp0 ?_
  refine sortSp_a t139 (n0 := H.next) (slat_hp hv1 []) (by omega) (fun d G3 hd1 hd2 hd3 hv3 hn3 ho3 => ?_)
  have hP3 : Past H G3 := ⟨by rw [hn3, hp_nil]; exact hP2.next, fun i hi => by
    rw [ho3 i hi, hp_nil]
    exact hP2.get i hi⟩
  obtain ⟨hso, hcov⟩ := filter_cov hd1
  have hdl : d.length ≤ l.length := by omega
  clear hv1 ho1 hn1 hP2 hv0 hG1 hw1 hd1 hd2 hfe
  rw [← hp_nil (H := G3)]
  rcases hv3 with ⟨rfl, he⟩ | ⟨id, gen, rfl, hid, hg⟩
  · have hd0 : d = [] := by simpa using he
    subst hd0
    have hx := h 0 [] ⟨sep_nil, hcov⟩ (Nat.zero_le _)
    refine stp0 ?_
    refine go_rounds mono 1 ?_
    simp (maxSteps := 4000000) (disch := (first | omega | (simp only [set_next, List.length_append, List.length_cons, List.length_nil, List.length_take, List.length_drop, List.length_map, List.length_set, List.length_replicate]; omega) | (simp only [set_next, ne_eq, reduceCtorEq, not_false_eq_true]))) only [rnds_succ, go_sem, Nat.reduceLeDiff, Nat.reduceAdd, Nat.reduceSub, Nat.reduceMul, Nat.reduceLT, Int.reduceLT, Int.reduceLE, Int.reduceAdd, Int.reduceSub, Int.reduceMul, Int.reduceToNat, Int.reduceNeg, Int.reduceEq, Nat.reducePow, Int.reducePow, Nat.reduceEqDiff, decide_true, decide_false, reduceIte, reduceCtorEq, Int.reduceBEq, Int.reduceBNe, bne_self_eq_false, Int.cast_ofNat_Int, Bool.not_true, Bool.not_false, IntKind.bits, w_nat, w_lit, w_add, w_addl, w_ladd, w_sub, w_subl, w_lsub, w_mul, w_mull, w_lmul, t_div, t_divl, t_mod, t_modl, i_lt, i_ltl, i_llt, i_le, i_lel, i_lle, i_eq, i_eql, i_leq, Nat.zero_le, d_beq, d_bne, d_bytes, byte_at, Int.toNat_natCast, toNat_lit, decide_eq_true, decide_eq_false, if_pos, if_neg, slA_len, slA_idx, slA_cells, flat_slA, one_slA, cells_slA, map_mid, strV_is, hp_get1, hp_get2, hp_get3, hp_set1, hp_set2, hp_set3, hp_old, hp_sold, set_got, set_set, set_next, set_other, bytesL, bytes_all, List.length_map, aapp_nils, aapp_wr, List.flatMap_cons, List.flatMap_nil, Nat.mul_one]
    exact aret_past (past_hp hP3 []) hs .nils hx
  have hlg := G3.lt hg
  have hcell := fun i (hi : i < d.length) => sps_cell d hi
  have hfl2 := flat_length _ _ (sps_len d)
  rw [List.length_map] at hfl2 ⊢
  generalize (d.map spnV).flatMap AV.cells = R at *
  refine stp0 ?_
  refine go_loopS mono (σ := AHeap × AV × List (Int × Int) × Nat) (fun z => [(4, z.2.1), (16, .int .i64 (z.2.2.2 : Int))]) (fun z => hp z.1 []) (fun z => Past G3 z.1 ∧ SlAt G3.next z.1 93 2 z.2.1 (z.2.2.1.map spnV) ∧ z.2.2.2 ≤ d.length ∧ z.2.2.1.length ≤ z.2.2.2 ∧ MInv (d.take z.2.2.2) z.2.2.1) (fun z => d.length - z.2.2.2) (G3, .nils, [], 0) ?_ rfl ⟨past_refl, slat_nil, Nat.zero_le _, Nat.zero_le _, m_start⟩ (fun z hz J hJ => ?_)
  · exact fgt
  obtain ⟨G, v, out, i⟩ := z
  obtain ⟨hG, hv, hil, hol, hM⟩ := hz
  simp only at hG hv hil hol hM
  have hgG : G.get id = some (.row 93 gen R) := (hG.get id hlg).trans hg
  have hlG := G.lt hgG
  have hvl := slat_len hv
  rw [List.length_map] at hvl
  simp only [blurR_nil, blurR_some, blurR_none, blurC_region, blurC_regionN, blurC_fregion, blurT_nil, blurT_cons, blurC_seq, blurC_both, blurC_cond, blurC_block, blurC_loop, blurC_skip, blurC_exit, blurC_ret, tellS_nil, tellS_cons, List.set_cons_zero, List.set_cons_succ, tops_zero, tops_succ]
  by_cases d1 : i < d.length
  · have ha := hcell i d1
    have hsx := hso _ (sp_mem d1)
    have hord := sort_ord hd3 d1
    have htk := sp_step d1
    have hJ2 := fun (G2 : AHeap) (v2 : AV) (out2 : List (Int × Int)) p1 (p2 : SlAt G3.next G2 93 2 v2 (out2.map spnV)) (p3 : out2.length ≤ i + 1) (p4 : MInv (d.take i ++ [d.getD i (0, 0)]) out2) a' => hJ (G2, v2, out2, i + 1) a' ⟨p1, p2, d1, p3, by show MInv (d.take (i + 1)) out2; rw [htk]; exact p4⟩ (by show d.length - (i + 1) < d.length - i; omega)
    clear hJ
    generalize d.getD i (0, 0) = x at *
    have hxb := someS_b hsx
    have hxs := someS_is.1 hsx
    have happ := fun (G' : AHeap) (hP' : Past G3 G') (hv' : SlAt G3.next G' 93 2 v (out.map spnV)) => slat_app (G := G') (b := 16) (ys := [spnV x]) hv' hP'.next (sps_len out) (sps_one [x]) (by simp only [List.length_map, List.length_singleton]; omega)
    rcases snoc_or out with rfl | ⟨o, q, rfl⟩
    · have hvl : alenL v = some (.int .i64 0) := hvl
      obtain ⟨v3, G4, hE, hv4, hbs⟩ := happ (hp G [.row 93 0 [.int .i64 x.1, .int .i64 x.2]]) (past_hp hG _) (slat_hp hv _)
      rw [spV_is] at hE
      have hP4 : Past G3 G4 := beside_past hbs (Nat.le_refl _) (past_hp hG _)
      have hm1 : IntKind.i64.wrap (-1) = -1 := rfl
      have hm2 : decide ((-1 : Int) < 0) = true := rfl
      refine stp (And.intro hgG (And.intro ha (And.intro hvl (And.intro hE (And.intro hm1 hm2))))) ?_
      exact hJ2 G4 v3 [x] hP4 hv4 (by simp) (m_first hM hxb) _ fgt
    · rcases hv with ⟨_, he⟩ | ⟨id2, gen2, rfl, hid2, hg2⟩
      · simp at he
      rw [sps_snoc] at hg2
      have hRo := flat_length _ _ (sps_len o)
      rw [List.length_map] at hRo
      have hcs : ∀ n : Int, ((o ++ [(q.1, n)]).map spnV).flatMap AV.cells = (o.map spnV).flatMap AV.cells ++ [.int .i64 q.1, .int .i64 n] := fun n => sps_snoc o (q.1, n)
      have hlen : ((o ++ [q]).map spnV).length = o.length + 1 := by rw [List.length_map, List.length_append, List.length_singleton]
      rw [hlen] at happ ⊢
      rw [List.length_append, List.length_singleton] at hol
      generalize (o.map spnV).flatMap AV.cells = Ro at *
      have c0 : (Ro ++ [AV.int .i64 q.1, AV.int .i64 q.2])[o.length * 2 + 0]? = some (.int .i64 q.1) := by rw [List.getElem?_append_right (by omega), hRo]; simp
      have c1 : (Ro ++ [AV.int .i64 q.1, AV.int .i64 q.2])[o.length * 2 + 1]? = some (.int .i64 q.2) := by rw [List.getElem?_append_right (by omega), hRo]; simp
      obtain ⟨hqs, hqb, hqo⟩ := sep_last hM.sep
      unfold spB at hqb
      have w1 := wrapI (a := q.1 + q.2) (by omega) (by omega)
      have w2 := wrapI (a := x.1 + x.2) (by omega) (by omega)
      have hl2 := G.lt hg2
      by_cases d2 : q.1 + q.2 < x.1
      · obtain ⟨v3, G4, hE, hv4, hbs⟩ := happ (hp G [.row 93 0 [.int .i64 x.1, .int .i64 x.2]]) (past_hp hG _) (by
          have := slat_hp (G := G) (n0 := G3.next) (e := 93) (sz := 2) (v := .wr id2 gen2 0 (o.length + 1) 2) (xs := (o ++ [q]).map spnV) (.inr ⟨id2, gen2, by rw [hlen], hid2, by rw [hg2, hcs]⟩) [.row 93 0 [.int .i64 x.1, .int .i64 x.2]]
          exact this)
        rw [spV_is] at hE
        have hP4 : Past G3 G4 := beside_past hbs (Nat.le_refl _) (past_hp hG _)
        simp (maxSteps := 4000000) (disch := (first | omega | (simp only [set_next, List.length_append, List.length_cons, List.length_nil, List.length_take, List.length_drop, List.length_map, List.length_set, List.length_replicate]; omega) | (simp only [set_next, ne_eq, reduceCtorEq, not_false_eq_true]))) only [Nat.add_sub_cancel, hgG, ha, hg2, c0, c1, w1, d2, hE, go_sem, Nat.reduceLeDiff, Nat.reduceAdd, Nat.reduceSub, Nat.reduceMul, Nat.reduceLT, Int.reduceLT, Int.reduceLE, Int.reduceAdd, Int.reduceSub, Int.reduceMul, Int.reduceToNat, Int.reduceNeg, Int.reduceEq, Nat.reducePow, Int.reducePow, Nat.reduceEqDiff, decide_true, decide_false, reduceIte, reduceCtorEq, Int.reduceBEq, Int.reduceBNe, bne_self_eq_false, Int.cast_ofNat_Int, Bool.not_true, Bool.not_false, IntKind.bits, w_nat, w_lit, w_add, w_addl, w_ladd, w_sub, w_subl, w_lsub, w_mul, w_mull, w_lmul, t_div, t_divl, t_mod, t_modl, i_lt, i_ltl, i_llt, i_le, i_lel, i_lle, i_eq, i_eql, i_leq, Nat.zero_le, d_beq, d_bne, d_bytes, byte_at, Int.toNat_natCast, toNat_lit, decide_eq_true, decide_eq_false, if_pos, if_neg, slA_len, slA_idx, slA_cells, flat_slA, one_slA, cells_slA, map_mid, strV_is, hp_get1, hp_get2, hp_get3, hp_set1, hp_set2, hp_set3, hp_old, hp_sold, set_got, set_set, set_next, set_other, bytesL, bytes_all, List.length_map, aapp_nils, aapp_wr, List.flatMap_cons, List.flatMap_nil, Nat.mul_one]
        exact hJ2 G4 v3 (o ++ [q] ++ [x]) hP4 (by rw [List.map_append]; exact hv4) (by simp; omega) (m_push hM hxb d2) _ fgt
      · simp (maxSteps := 4000000) (disch := (first | omega | (simp only [set_next, List.length_append, List.length_cons, List.length_nil, List.length_take, List.length_drop, List.length_map, List.length_set, List.length_replicate]; omega) | (simp only [set_next, ne_eq, reduceCtorEq, not_false_eq_true]))) only [Nat.add_sub_cancel, hgG, ha, hg2, c0, c1, w1, w2, d2, go_sem, Nat.reduceLeDiff, Nat.reduceAdd, Nat.reduceSub, Nat.reduceMul, Nat.reduceLT, Int.reduceLT, Int.reduceLE, Int.reduceAdd, Int.reduceSub, Int.reduceMul, Int.reduceToNat, Int.reduceNeg, Int.reduceEq, Nat.reducePow, Int.reducePow, Nat.reduceEqDiff, decide_true, decide_false, reduceIte, reduceCtorEq, Int.reduceBEq, Int.reduceBNe, bne_self_eq_false, Int.cast_ofNat_Int, Bool.not_true, Bool.not_false, IntKind.bits, w_nat, w_lit, w_add, w_addl, w_ladd, w_sub, w_subl, w_lsub, w_mul, w_mull, w_lmul, t_div, t_divl, t_mod, t_modl, i_lt, i_ltl, i_llt, i_le, i_lel, i_lle, i_eq, i_eql, i_leq, Nat.zero_le, d_beq, d_bne, d_bytes, byte_at, Int.toNat_natCast, toNat_lit, decide_eq_true, decide_eq_false, if_pos, if_neg, slA_len, slA_idx, slA_cells, flat_slA, one_slA, cells_slA, map_mid, strV_is, hp_get1, hp_get2, hp_get3, hp_set1, hp_set2, hp_set3, hp_old, hp_sold, set_got, set_set, set_next, set_other, bytesL, bytes_all, List.length_map, aapp_nils, aapp_wr, List.flatMap_cons, List.flatMap_nil, Nat.mul_one]
        have hm : (if q.1 + q.2 < x.1 + x.2 then x.1 + x.2 else q.1 + q.2) = max (q.1 + q.2) (x.1 + x.2) := by
          by_cases hc : q.1 + q.2 < x.1 + x.2
          · rw [if_pos hc]
            omega
          · rw [if_neg hc]
            omega
        have w3 := wrapI (a := max (q.1 + q.2) (x.1 + x.2) - q.1) (by omega) (by omega)
        have hrs := row_set (a := .int .i64 q.1) (b := .int .i64 q.2) (n := .int .i64 (max (q.1 + q.2) (x.1 + x.2) - q.1)) hRo
        rw [hm, w3, hrs]
        have hJ3 := hJ2 (hp (G.set id2 (.row 93 gen2 (Ro ++ [.int .i64 q.1, .int .i64 (max (q.1 + q.2) (x.1 + x.2) - q.1)]))) [.row 93 0 [.int .i64 x.1, .int .i64 x.2]]) (.wr id2 gen2 0 (o.length + 1) 2) (o ++ [(q.1, max (q.1 + q.2) (x.1 + x.2) - q.1)]) (past_hp (past_set hG hid2 _) _) (slat_hp (.inr ⟨id2, gen2, by rw [List.length_map, List.length_append, List.length_singleton], hid2, by rw [set_got hl2, hcs]⟩) _) (by rw [List.length_append, List.length_singleton]; omega) (m_join hM hxb hord (by omega))
        rw [hp_nil] at hJ3
        exact hJ3 _ fgt
  · have hi : i = d.length := by omega
    rw [hi, List.take_length] at hM
    refine stp0 ?_
    rw [hp_nil]
    exact slat_ret (slat_low hv hP3.next) (sps_len _) (past_trans hP3 hG) hs (sps_u _ _) (fun k => h k out ⟨hM.sep, fun b => (hM.cov b).trans (hcov b)⟩ (by omega))
end
section
variable {H : AHeap} {K : AV → AHeap → Prop}
end
theorem flat_stepC {α β : Type} (f : α → List β) {l : List α} {i : Nat} {d : α} (h : i < l.length) : (l.take (i + 1)).flatMap f = (l.take i).flatMap f ++ f (l.getD i d) := by
  rw [List.take_add_one, List.getElem?_eq_getElem h, List.flatMap_append, List.getD_eq_getElem?_getD, List.getElem?_eq_getElem h]
  simp
theorem flat_lenC {α β : Type} {f : α → List β} {b : Nat} : ∀ {l : List α}, (∀ x ∈ l, (f x).length ≤ b) → (l.flatMap f).length ≤ l.length * b
  | [], _ => Nat.zero_le _
  | x :: l, h => by
    have h1 := h x List.mem_cons_self
    have h2 := flat_lenC (fun y hy => h y (List.mem_cons_of_mem _ hy))
    rw [List.flatMap_cons, List.length_append, List.length_cons, Nat.succ_mul]
    omega
theorem memK_yes {t k : Tr} (h1 : asText (atT k [47] kDev) = some kMem) (h2 : (regsS t (joinPs [k.name])).2 = 0) : memK t k = (regsS t (joinPs [k.name])).1 := if_pos ⟨h1, h2⟩
theorem memK_no {t k : Tr} (h : ¬ (asText (atT k [47] kDev) = some kMem ∧ (regsS t (joinPs [k.name])).2 = 0)) : memK t k = [] := if_neg h
section
variable {H : AHeap} {K : AV → AHeap → Prop}
theorem memory_a {n : Nat} {t : Tr} (hn : n ≤ 100000) (hm : TrM n t) (hkn : t.kids.length ≤ 300) (hnm : ∀ k ∈ t.kids, k.name.length ≤ 1000) (hb : ∀ k ∈ t.kids, (memK t k).length ≤ 300)
    (h : ∀ k J, JoinOf (memL t) J → J.length ≤ (memL t).length → K (slA k 2 (J.map spnV)) H) : (ACalls Tryz.prog) 41 [t.V] H K := by
  refine acalls_go mo t41 (fun hs hu => ?_)
  have hVi := Tr.V_is t
  unfold memL at h
  have hfl := fun i => flat_lenC (f := memK t) (l := t.kids.take i) (b := 300) (fun x hx => hb x (List.mem_of_mem_take hx))
  simp only [c41, Tr.V_is, go_sem, Nat.reduceLeDiff, Nat.reduceAdd, Nat.reduceSub, Nat.reduceMul, Nat.reduceLT, Int.reduceLT, Int.reduceLE, Int.reduceAdd, Int.reduceSub, Int.reduceMul, Int.reduceToNat, Int.reduceNeg, Int.reduceEq, Nat.reducePow, Int.reducePow, Nat.reduceEqDiff, decide_true, decide_false, reduceIte, reduceCtorEq, Int.reduceBEq, Int.reduceBNe, bne_self_eq_false, Int.cast_ofNat_Int, Bool.not_true, Bool.not_false, IntKind.bits]
  refine stp0 ?_
  refine go_loopS mono (σ := AHeap × AV × Nat) (fun z => [(3, z.2.1), (13, .int .i64 (z.2.2 : Int))]) (fun z => hp z.1 []) (fun z => SlAt (H.next + 1) z.1 93 2 z.2.1 (((t.kids.take z.2.2).flatMap (memK t)).map spnV) ∧ (Past H z.1 ∧ H.next + 1 ≤ z.1.next) ∧ z.1.get (H.next + 0) = some (trRow t) ∧ z.2.2 ≤ t.kids.length) (fun z => t.kids.length - z.2.2) (hp H [trRow t], .nils, 0) ?_ (by rw [hp_nil]; simp only [trRow_is]) ⟨slat_nil, ⟨past_hp past_refl _, Nat.le_refl _⟩, hp_get _ _ 0, Nat.zero_le _⟩ (fun z hz J hJ => ?_)
  · exact fgt
  obtain ⟨G, v2, i⟩ := z
  obtain ⟨hv2, ⟨hG, hGn⟩, hg0, hil⟩ := hz
  simp only at hv2 hG hGn hg0 hil
  have hl0 := G.lt hg0
  have hg0' := hg0
  rw [trRow_is] at hg0'
  simp only [blurR_nil, blurR_some, blurR_none, blurC_region, blurC_regionN, blurC_fregion, blurT_nil, blurT_cons, blurC_seq, blurC_both, blurC_cond, blurC_block, blurC_loop, blurC_skip, blurC_exit, blurC_ret, tellS_nil, tellS_cons, List.set_cons_zero, List.set_cons_succ, tops_zero, tops_succ]
  by_cases h1 : i < t.kids.length
  · have ha := tr_at h1
    have hmk := hm.ks _ (tr_mem h1)
    have hkl := hnm _ (tr_mem h1)
    have hbk := hb _ (tr_mem h1)
    have hst := flat_stepC (memK t) (d := tr0) h1
    have hfi := hfl i
    rw [List.length_take] at hfi
    have hJ2 := fun (G2 : AHeap) (v3 : AV) p1 p2 p3 a' => hJ (G2, v3, i + 1) a' ⟨p1, p2, p3, h1⟩ (by show t.kids.length - (i + 1) < t.kids.length - i; omega)
    clear hJ
    simp only [hst] at hJ2
    generalize t.kids.getD i tr0 = k at *
    generalize (t.kids.take i).flatMap (memK t) = ys at *
    have hVc := Tr.V_cells k
    have hVk := Tr.V_is k
    have hat : (atT k [47] [100, 101, 118, 105, 99, 101, 95, 116, 121, 112, 101]).length < 1073741824 := by
      unfold atT
      rw [show findT k [47] = some k from rfl]
      show ((valT k [100, 101, 118, 105, 99, 101, 95, 116, 121, 112, 101]).getD []).length < _
      cases hv : valT k [100, 101, 118, 105, 99, 101, 95, 116, 121, 112, 101] with
      | none => simp
      | some v => have := valT_m hmk hv; simp only [Option.getD_some]; omega
    have hyes := memK_yes (t := t) (k := k)
    have hno := memK_no (t := t) (k := k)
    unfold kDev kMem at hyes hno
    have hj1 : (joinPs [k.name]).length ≤ 5000 := by
      have := joinPs_len (ls := [k.name]) (m := 1000) (by simpa using hkl)
      simp only [List.length_cons, List.length_nil] at this
      omega
    refine stp (And.intro ha (And.intro hVc hg0')) ?_
    rw [← hVk]
    refine Text_a (trm_ok (by omega) hmk) (by decide) hat ?_
    rw [textV_is]
    have hstay : memK t k = [] → ∀ l : List AObj, SlAt (H.next + 1) (hp G l) 93 2 v2 ((ys ++ memK t k).map spnV) := fun e l => by
      rw [e, List.append_nil]
      exact slat_hp hv2 l
    have hget0 : ∀ l : List AObj, (hp G l).get (H.next + 0) = some (trRow t) := fun l => (hp_old hl0).trans hg0
    by_cases ht : (asText (atT k [47] [100, 101, 118, 105, 99, 101, 95, 116, 121, 112, 101])).getD [] = [109, 101, 109, 111, 114, 121]
    · have ht2 : asText (atT k [47] [100, 101, 118, 105, 99, 101, 95, 116, 121, 112, 101]) = some [109, 101, 109, 111, 114, 121] := by
        cases hq : asText (atT k [47] [100, 101, 118, 105, 99, 101, 95, 116, 121, 112, 101]) with
        | none => rw [hq] at ht; cases ht
        | some w => rw [hq] at ht; exact congrArg some ht
      rw [ht]
      rw [hVk]
      refine stp (And.intro hg0' hVc) ?_
      rw [show ([AV.str (B k.name)] : List AV) = [k.name].map strV from rfl, show AV.imm 1 ([k.name].map strV) = slA 2 1 ([k.name].map strV) from rfl]
      refine ⟨_, Join_a (by simp) (by simpa using by omega) ⟨rfl, rfl⟩, ?_⟩
      refine stp0 ?_
      rw [← hVi]
      refine regs_a hn hm hj1 (fun k3 => ?_)
      rw [hVi]
      by_cases he : (regsS t (joinPs [k.name])).2 = 0
      · have hy := hyes ht2 he
        rw [← hy]
        generalize regsS t (joinPs [k.name]) = R at *
        generalize memK t k = mk at *
        obtain ⟨v3, G3, q1, q2, q3⟩ := slat_app (b := 16) (ys := mk.map spnV) (slat_hp hv2 [trRow k]) (by rw [hp_next]; omega) (spn_len _) (spn_one _) (by simp only [List.length_map]; omega)
        rw [← List.map_append] at q2
        have q1' : aapp 93 2 16 (hp G [.row 25 0 [.str (B k.name), slA k.kp 2 (k.props.map propV), slA k.kk 3 (k.kids.map Tr.V)]]) v2 (slA k3 2 (mk.map spnV)) = some (v3, hp G3 []) := by
          rw [← q1]
          unfold aapp
          rw [slA_cells, acells_imm, if_pos rfl, trRow_is]
        refine stp (And.intro he q1') ?_
        exact hJ2 G3 v3 q2 ⟨beside_past q3 (by omega) (past_hp hG _), Nat.le_trans (by rw [hp_next]; omega) q3.next⟩ (q3.other _ _ (hget0 _) (slat_nid hv2 (by omega))) _ fgt
      · have hn0 := hno (fun q => he q.2)
        generalize regsS t (joinPs [k.name]) = R at *
        refine stp he ?_
        rw [← hp_nil (H := hp G _)]
        exact hJ2 _ v2 (hstay hn0 _) ⟨past_hp hG _, by rw [hp_next]; omega⟩ (hget0 _) _ fgt
    · have hn0 := hno (fun q => ht (by rw [q.1]; rfl))
      rw [hVk]
      refine stp ht ?_
      rw [← hp_nil (H := hp G _)]
      exact hJ2 _ v2 (hstay hn0 _) ⟨past_hp hG _, by rw [hp_next]; omega⟩ (hget0 _) _ fgt
  · rw [List.take_of_length_le (by omega)] at hv2
    have hfa := hfl t.kids.length
    rw [List.take_of_length_le (Nat.le_refl _)] at hfa
    refine stp0 ?_
    rw [hp_nil]
    obtain ⟨G5, k5, w1, w2⟩ := slat_shut hv2 (spn_len _)
    refine acalls_shut (pre := []) w1 ?_
    refine sJoin_a (by omega) (fun k J hJ3 hJl => ?_)
    have hx := h k J hJ3 hJl
    rw [← hp_nil (H := G5)]
    refine stp0 ?_
    refine aret_past (past_hp (w2 H (by omega) hG) []) hs ?_ hx
    rw [u_slA]
    exact spn_u _ _
end
def colL (n : Int) (c : Nat) : List Int := if c = 0 then [] else if c = 1 then [n] else [0, n]
theorem colL_len {n : Int} {c : Nat} (h : c ≤ 2) : (colL n c).length = c := by
  unfold colL
  by_cases h0 : c = 0
  · rw [if_pos h0, h0]; rfl
  · by_cases h1 : c = 1
    · rw [if_neg h0, if_pos h1, h1]; rfl
    · rw [if_neg h0, if_neg h1, show c = 2 by omega]; rfl
def okSp (s : Nat) (x : Int × Int) : Bool := in32 x.1 && in32 x.2 && !(decide (s = 0) && decide (¬ x.2 = 0))
def cellsSp (a s : Nat) (x : Int × Int) : List Int := colL x.1 a ++ colL x.2 s
def putS (a s : Int) (l : List (Int × Int)) : List UInt8 × Int := if mayC a s = true then (if l.all (okSp s.toNat) = true then (fours (l.flatMap (cellsSp a.toNat s.toNat)), 0) else ([], 1)) else ([], 1)
section
variable {H : AHeap} {K : AV → AHeap → Prop}
theorem column_a {n : Int} {c : Nat} (hc : c ≤ 2) (h : ∀ k, K (slA k 1 ((colL n c).map (AV.int .i64))) H) : (ACalls Tryz.prog) 87 [.int .i64 n, .int .i64 (c : Int)] H K := by
  refine acalls_go mo t87 (fun hs hu => ?_)
  unfold colL at h
  simp only [c87, go_sem, Nat.reduceLeDiff, Nat.reduceAdd, Nat.reduceSub, Nat.reduceMul, Nat.reduceLT, Int.reduceLT, Int.reduceLE, Int.reduceAdd, Int.reduceSub, Int.reduceMul, Int.reduceToNat, Int.reduceNeg, Int.reduceEq, Nat.reducePow, Int.reducePow, Nat.reduceEqDiff, decide_true, decide_false, reduceIte, reduceCtorEq, Int.reduceBEq, Int.reduceBNe, bne_self_eq_false, Int.cast_ofNat_Int, Bool.not_true, Bool.not_false, IntKind.bits]
  match c, hc with
  | 0, _ =>
    have hx := h 2
    simp only [amk, Int.natCast_zero, Int.ofNat_zero, go_sem, Nat.reduceLeDiff, Nat.reduceAdd, Nat.reduceSub, Nat.reduceMul, Nat.reduceLT, Int.reduceLT, Int.reduceLE, Int.reduceAdd, Int.reduceSub, Int.reduceMul, Int.reduceToNat, Int.reduceNeg, Int.reduceEq, Nat.reducePow, Int.reducePow, Nat.reduceEqDiff, decide_true, decide_false, reduceIte, reduceCtorEq, Int.reduceBEq, Int.reduceBNe, bne_self_eq_false, Int.cast_ofNat_Int, Bool.not_true, Bool.not_false, IntKind.bits]
    exact aret_wr (l := [.row 3 0 []]) (i := 0) [] rfl (by simp) rfl rfl hs (by simp only [u_top, u_bool, u_int, u_str, u_nilp, u_nils, u_nilf, u_nilm, u_nili, u_emp, u_byteV, u_ptr, u_wr, u_wc, u_agg, u_tup, u_rd, u_imm, u_func, u_nil, u_cons, u_app, uc_nil, uc_cons, uc_app, u_bytes, uc_bytes, u_ints, uc_ints, cells_bool, cells_int, cells_str, cells_agg, cells_ptr, cells_nils, cells_imm, cells_wr, cells_wc, cells_nilp, cells_nilf, cells_nilm, cells_rd, cells_emp, cells_byteV, cells_func, and_self, and_true, true_and, u_slA, uc_strs, cells_slA, strV_is]) hx
  | 1, _ =>
    have hx := h 2
    have hr : (List.replicate 1 [AV.int .i64 0]).flatten = [AV.int .i64 0] := rfl
    simp only [amk, go_sem, Nat.reduceLeDiff, Nat.reduceAdd, Nat.reduceSub, Nat.reduceMul, Nat.reduceLT, Int.reduceLT, Int.reduceLE, Int.reduceAdd, Int.reduceSub, Int.reduceMul, Int.reduceToNat, Int.reduceNeg, Int.reduceEq, Nat.reducePow, Int.reducePow, Nat.reduceEqDiff, decide_true, decide_false, reduceIte, reduceCtorEq, Int.reduceBEq, Int.reduceBNe, bne_self_eq_false, Int.cast_ofNat_Int, Bool.not_true, Bool.not_false, IntKind.bits]
    refine stp hr ?_
    exact aret_wr (l := [.row 3 0 [.int .i64 n]]) (i := 0) [.int .i64 n] rfl (by simp [AV.cells]) rfl rfl hs (by simp only [u_top, u_bool, u_int, u_str, u_nilp, u_nils, u_nilf, u_nilm, u_nili, u_emp, u_byteV, u_ptr, u_wr, u_wc, u_agg, u_tup, u_rd, u_imm, u_func, u_nil, u_cons, u_app, uc_nil, uc_cons, uc_app, u_bytes, uc_bytes, u_ints, uc_ints, cells_bool, cells_int, cells_str, cells_agg, cells_ptr, cells_nils, cells_imm, cells_wr, cells_wc, cells_nilp, cells_nilf, cells_nilm, cells_rd, cells_emp, cells_byteV, cells_func, and_self, and_true, true_and, u_slA, uc_strs, cells_slA, strV_is, cells_int]) hx
  | 2, _ =>
    have hx := h 2
    have hr : (List.replicate 2 [AV.int .i64 0]).flatten = [AV.int .i64 0, .int .i64 0] := rfl
    simp only [amk, go_sem, Nat.reduceLeDiff, Nat.reduceAdd, Nat.reduceSub, Nat.reduceMul, Nat.reduceLT, Int.reduceLT, Int.reduceLE, Int.reduceAdd, Int.reduceSub, Int.reduceMul, Int.reduceToNat, Int.reduceNeg, Int.reduceEq, Nat.reducePow, Int.reducePow, Nat.reduceEqDiff, decide_true, decide_false, reduceIte, reduceCtorEq, Int.reduceBEq, Int.reduceBNe, bne_self_eq_false, Int.cast_ofNat_Int, Bool.not_true, Bool.not_false, IntKind.bits]
    refine stp hr ?_
    exact aret_wr (l := [.row 3 0 [.int .i64 0, .int .i64 n]]) (i := 0) [.int .i64 0, .int .i64 n] rfl (by simp [AV.cells]) rfl rfl hs (by simp only [u_top, u_bool, u_int, u_str, u_nilp, u_nils, u_nilf, u_nilm, u_nili, u_emp, u_byteV, u_ptr, u_wr, u_wc, u_agg, u_tup, u_rd, u_imm, u_func, u_nil, u_cons, u_app, uc_nil, uc_cons, uc_app, u_bytes, uc_bytes, u_ints, uc_ints, cells_bool, cells_int, cells_str, cells_agg, cells_ptr, cells_nils, cells_imm, cells_wr, cells_wc, cells_nilp, cells_nilf, cells_nilm, cells_rd, cells_emp, cells_byteV, cells_func, and_self, and_true, true_and, u_slA, uc_strs, cells_slA, strV_is, cells_int]) hx
theorem bigsA_a {k : Nat} {l : List Int} (hl : l.length ≤ 100000) (h : K (.str (B (fours l))) H) : (ACalls Tryz.prog) 88 [slA k 1 (l.map (AV.int .i64))] H K := by
  rcases slA_cases k 1 (l.map (AV.int .i64)) with ⟨e1, e2⟩ | ⟨e1, e2⟩ | e1
  · rw [e1]
    have : l = [] := List.map_eq_nil_iff.1 e2
    subst this
    refine acalls_go mo t88 (fun hs hu => ?_)
    simp only [c88, go_sem, Nat.reduceLeDiff, Nat.reduceAdd, Nat.reduceSub, Nat.reduceMul, Nat.reduceLT, Int.reduceLT, Int.reduceLE, Int.reduceAdd, Int.reduceSub, Int.reduceMul, Int.reduceToNat, Int.reduceNeg, Int.reduceEq, Nat.reducePow, Int.reducePow, Nat.reduceEqDiff, decide_true, decide_false, reduceIte, reduceCtorEq, Int.reduceBEq, Int.reduceBNe, bne_self_eq_false, Int.cast_ofNat_Int, Bool.not_true, Bool.not_false, IntKind.bits]
    refine go_rounds mono 1 ?_
    simp only [rnds_succ, go_sem, Nat.reduceLeDiff, Nat.reduceAdd, Nat.reduceSub, Nat.reduceMul, Nat.reduceLT, Int.reduceLT, Int.reduceLE, Int.reduceAdd, Int.reduceSub, Int.reduceMul, Int.reduceToNat, Int.reduceNeg, Int.reduceEq, Nat.reducePow, Int.reducePow, Nat.reduceEqDiff, decide_true, decide_false, reduceIte, reduceCtorEq, Int.reduceBEq, Int.reduceBNe, bne_self_eq_false, Int.cast_ofNat_Int, Bool.not_true, Bool.not_false, IntKind.bits]
    rw [show ab2s (hp H []) .nils = some (.str (B [])) from rfl]
    refine stp0 ?_
    exact aret_u hs (h)
  · rw [e1]
    have : l = [] := List.map_eq_nil_iff.1 e2
    subst this
    refine acalls_go mo t88 (fun hs hu => ?_)
    simp only [c88, go_sem, Nat.reduceLeDiff, Nat.reduceAdd, Nat.reduceSub, Nat.reduceMul, Nat.reduceLT, Int.reduceLT, Int.reduceLE, Int.reduceAdd, Int.reduceSub, Int.reduceMul, Int.reduceToNat, Int.reduceNeg, Int.reduceEq, Nat.reducePow, Int.reducePow, Nat.reduceEqDiff, decide_true, decide_false, reduceIte, reduceCtorEq, Int.reduceBEq, Int.reduceBNe, bne_self_eq_false, Int.cast_ofNat_Int, Bool.not_true, Bool.not_false, IntKind.bits]
    refine go_rounds mono 1 ?_
    simp only [rnds_succ, go_sem, Nat.reduceLeDiff, Nat.reduceAdd, Nat.reduceSub, Nat.reduceMul, Nat.reduceLT, Int.reduceLT, Int.reduceLE, Int.reduceAdd, Int.reduceSub, Int.reduceMul, Int.reduceToNat, Int.reduceNeg, Int.reduceEq, Nat.reducePow, Int.reducePow, Nat.reduceEqDiff, decide_true, decide_false, reduceIte, reduceCtorEq, Int.reduceBEq, Int.reduceBNe, bne_self_eq_false, Int.cast_ofNat_Int, Bool.not_true, Bool.not_false, IntKind.bits]
    rw [show ab2s (hp H []) .nils = some (.str (B [])) from rfl]
    refine stp0 ?_
    exact aret_u hs (h)
  · rw [e1]
    exact bigs_a hl h
theorem put_a {k : Nat} {a s : Int} {l : List (Int × Int)} (hl : l.length ≤ 1000) (h : K (.tup [.str (B (putS a s l).1), .int .i64 (putS a s l).2]) H) : (ACalls Tryz.prog) 43 [.int .i64 a, .int .i64 s, slA k 2 (l.map spnV)] H K := by
  refine acalls_go mo t43 (fun hs hu => ?_)
  unfold putS at h
  simp only [c43, go_sem, Nat.reduceLeDiff, Nat.reduceAdd, Nat.reduceSub, Nat.reduceMul, Nat.reduceLT, Int.reduceLT, Int.reduceLE, Int.reduceAdd, Int.reduceSub, Int.reduceMul, Int.reduceToNat, Int.reduceNeg, Int.reduceEq, Nat.reducePow, Int.reducePow, Nat.reduceEqDiff, decide_true, decide_false, reduceIte, reduceCtorEq, Int.reduceBEq, Int.reduceBNe, bne_self_eq_false, Int.cast_ofNat_Int, Bool.not_true, Bool.not_false, IntKind.bits]
  refine mayC_a ?_
  cases hm : mayC a s with
  | false =>
    rw [if_neg (by rw [hm]; exact Bool.false_ne_true)] at h
    have hx : K (.tup [.str (B []), .int .i64 1]) H := h
    refine stp0 ?_
    exact aret_u hs (hx)
  | true =>
    rw [if_pos hm] at h
    unfold mayC at hm
    simp only [Bool.and_eq_true, decide_eq_true_eq] at hm
    obtain ⟨⟨⟨m1, m2⟩, m3⟩, m4⟩ := hm
    obtain ⟨an, rfl⟩ : ∃ an : Nat, a = an := ⟨a.toNat, by omega⟩
    obtain ⟨sn, rfl⟩ : ∃ sn : Nat, s = sn := ⟨s.toNat, by omega⟩
    rw [Int.toNat_natCast, Int.toNat_natCast] at h
    have m2 : an ≤ 2 := by omega
    have m4 : sn ≤ 2 := by omega
    have hcl : ∀ x, (cellsSp an sn x).length = an + sn := fun x => by unfold cellsSp; rw [List.length_append, colL_len m2, colL_len m4]
    have hfl : ∀ i, ((l.take i).flatMap (cellsSp an sn)).length = (l.take i).length * (an + sn) := fun i => by
      generalize l.take i = m
      induction m with
      | nil => simp
      | cons x m ih => rw [List.flatMap_cons, List.length_append, ih, hcl, List.length_cons, Nat.succ_mul]; omega
    refine stp0 ?_
    refine go_loopS mono (σ := AHeap × AV × Nat) (fun z => [(8, z.2.1), (17, .int .i64 (z.2.2 : Int))]) (fun z => hp z.1 []) (fun z => SlAt H.next z.1 3 1 z.2.1 (((l.take z.2.2).flatMap (cellsSp an sn)).map (AV.int .i64)) ∧ Past H z.1 ∧ z.2.2 ≤ l.length ∧ (l.take z.2.2).all (okSp sn) = true) (fun z => l.length - z.2.2) (H, .nils, 0) ?_ rfl ⟨slat_nil, past_refl, Nat.zero_le _, rfl⟩ (fun z hz J hJ => ?_)
    · exact fgt
    obtain ⟨G, v2, i⟩ := z
    obtain ⟨hv2, hG, hil, hall⟩ := hz
    simp only at hv2 hG hil hall
    simp only [blurR_nil, blurR_some, blurR_none, blurC_region, blurC_regionN, blurC_fregion, blurT_nil, blurT_cons, blurC_seq, blurC_both, blurC_cond, blurC_block, blurC_loop, blurC_skip, blurC_exit, blurC_ret, tellS_nil, tellS_cons, List.set_cons_zero, List.set_cons_succ, tops_zero, tops_succ]
    by_cases h1 : i < l.length
    · have ha := spn_at h1
      have hst : (l.take (i + 1)).flatMap (cellsSp an sn) = (l.take i).flatMap (cellsSp an sn) ++ cellsSp an sn (l.getD i (0, 0)) := by
        rw [List.take_add_one, List.getElem?_eq_getElem h1, List.flatMap_append, List.getD_eq_getElem?_getD, List.getElem?_eq_getElem h1]
        simp
      have hals := all_step (p := okSp sn) (d := ((0 : Int), (0 : Int))) h1
      have hbad := all_stop (p := okSp sn) (n := l.length) (d := ((0 : Int), (0 : Int))) h1 h1
      rw [List.take_of_length_le (Nat.le_refl _)] at hbad
      have hfi := hfl i
      rw [List.length_take] at hfi
      have hmul : min i l.length * (an + sn) ≤ 1000 * 4 := Nat.mul_le_mul (by omega) (by omega)
      have hJ2 := fun (G2 : AHeap) (v3 : AV) p1 p2 p3 a' => hJ (G2, v3, i + 1) a' ⟨p1, p2, h1, p3⟩ (by show l.length - (i + 1) < l.length - i; omega)
      clear hJ
      simp only [hst, hals, hall, Bool.true_and] at hJ2
      generalize l.getD i (0, 0) = x at *
      obtain ⟨x1, x2⟩ := x
      generalize (l.take i).flatMap (cellsSp an sn) = ys at *
      have hxc : (spnV (x1, x2)).cells = [.int .i64 x1, .int .i64 x2] := rfl
      have hcx := hcl (x1, x2)
      have hlit : AV.imm 1 [AV.int .i64 x1, .int .i64 x2] = slA 2 1 ([x1, x2].map (AV.int .i64)) := rfl
      have hal2 : List.all [x1, x2] in32 = (in32 x1 && in32 x2) := by simp
      have hend : okSp sn (x1, x2) = false → K (.tup [.str (B []), .int .i64 1]) H := fun e => by
        rw [if_neg (by rw [hbad e]; exact Bool.false_ne_true)] at h
        exact h
      unfold okSp at hend hJ2
      simp only at hend hJ2
      refine stp (And.intro ha hxc) ?_
      rw [hlit]
      refine within_a (by simp) ?_
      rw [hal2]
      cases hb : (in32 x1 && in32 x2) with
      | false =>
        rw [hb, Bool.false_and] at hend
        have hx := hend rfl
        refine stp0 ?_
        exact aret_past (past_hp hG _) hs (by simp only [u_top, u_bool, u_int, u_str, u_nilp, u_nils, u_nilf, u_nilm, u_nili, u_emp, u_byteV, u_ptr, u_wr, u_wc, u_agg, u_tup, u_rd, u_imm, u_func, u_nil, u_cons, u_app, uc_nil, uc_cons, uc_app, u_bytes, uc_bytes, u_ints, uc_ints, cells_bool, cells_int, cells_str, cells_agg, cells_ptr, cells_nils, cells_imm, cells_wr, cells_wc, cells_nilp, cells_nilf, cells_nilm, cells_rd, cells_emp, cells_byteV, cells_func, and_self, and_true, true_and, u_slA, uc_strs, cells_slA, strV_is]) hx
      | true =>
        rw [hb, Bool.true_and] at hend hJ2
        have happ : ∀ (G3 : AHeap) (v3 : AV) (zs ws : List Int) (kk : Nat), SlAt H.next G3 3 1 v3 (zs.map (AV.int .i64)) → Past H G3 → zs.length + ws.length ≤ 10000 → ∃ v4 G4, aapp 3 1 8 G3 v3 (slA kk 1 (ws.map (AV.int .i64))) = some (v4, hp G4 []) ∧ SlAt H.next G4 3 1 v4 ((zs ++ ws).map (AV.int .i64)) ∧ Past H G4 ∧ (∀ i o, G3.get i = some o → (∀ gen off len sz, v3 ≠ .wr i gen off len sz) → G4.get i = some o) ∧ G3.next ≤ G4.next := fun G3 v3 zs ws kk w1 w2 w3 => by
          obtain ⟨v4, G4, q1, q2, q3⟩ := slat_app (b := 8) (ys := ws.map (AV.int .i64)) w1 w2.next (intsC_len _) (intsC_one _) (by simp only [List.length_map]; omega)
          rw [← List.map_append] at q2
          refine ⟨v4, G4, ?_, q2, beside_past q3 (Nat.le_refl _) w2, q3.other, q3.next⟩
          rw [← q1]
          unfold aapp
          rw [slA_cells, acells_imm, if_pos rfl]
        by_cases hz : sn = 0 ∧ ¬ x2 = 0
        · obtain ⟨z1, z2⟩ := hz
          subst z1
          rw [decide_eq_true z2] at hend
          have hx := hend rfl
          refine stp z2 ?_
          exact aret_past (past_hp hG _) hs (by simp only [u_top, u_bool, u_int, u_str, u_nilp, u_nils, u_nilf, u_nilm, u_nili, u_emp, u_byteV, u_ptr, u_wr, u_wc, u_agg, u_tup, u_rd, u_imm, u_func, u_nil, u_cons, u_app, uc_nil, uc_cons, uc_app, u_bytes, uc_bytes, u_ints, uc_ints, cells_bool, cells_int, cells_str, cells_agg, cells_ptr, cells_nils, cells_imm, cells_wr, cells_wc, cells_nilp, cells_nilf, cells_nilm, cells_rd, cells_emp, cells_byteV, cells_func, and_self, and_true, true_and, u_slA, uc_strs, cells_slA, strV_is]) hx
        · have hz2 : (decide (sn = 0) && decide (¬ x2 = 0)) = false := by
            by_cases z1 : sn = 0
            · have z2 : x2 = 0 := Classical.byContradiction (fun q => hz ⟨z1, q⟩)
              rw [z2]
              simp
            · rw [decide_eq_false z1]
              rfl
          rw [hz2] at hJ2
          have hx10 : (hp G [.row 93 0 [.int .i64 x1, .int .i64 x2]]).get (G.next + 0) = some (.row 93 0 [.int .i64 x1, .int .i64 x2]) := hp_get _ _ 0
          have hne : ∀ gen off len sz, v2 ≠ .wr (G.next + 0) gen off len sz := fun gen off len sz e => by
            rcases hv2 with ⟨q, _⟩ | ⟨id, g, q, q2, q3⟩
            · rw [q] at e; cases e
            · rw [q] at e
              cases e
              have := G.lt q3
              omega
          have key : ∀ (k1 k2 : Nat), ∃ v4 G4 v5 G5, aapp 3 1 8 (hp G [.row 93 0 [.int .i64 x1, .int .i64 x2]]) v2 (slA k1 1 ((colL x1 an).map (AV.int .i64))) = some (v4, hp G4 []) ∧ (hp G4 []).get (G.next + 0) = some (.row 93 0 [.int .i64 x1, .int .i64 x2]) ∧ aapp 3 1 8 (hp G4 []) v4 (slA k2 1 ((colL x2 sn).map (AV.int .i64))) = some (v5, hp G5 []) ∧ SlAt H.next G5 3 1 v5 ((ys ++ cellsSp an sn (x1, x2)).map (AV.int .i64)) ∧ Past H G5 := fun k1 k2 => by
            have hlc : (colL x1 an).length + (colL x2 sn).length = an + sn := by rw [colL_len m2, colL_len m4]
            obtain ⟨v4, G4, q1, q2, q3, q4, _⟩ := happ _ v2 ys (colL x1 an) k1 (slat_hp hv2 _) (past_hp hG _) (by omega)
            obtain ⟨v5, G5, r1, r2, r3, _, _⟩ := happ _ v4 _ (colL x2 sn) k2 (slat_hp q2 []) (past_hp q3 []) (by rw [List.length_append]; omega)
            refine ⟨v4, G4, v5, G5, q1, ?_, r1, ?_, r3⟩
            · rw [hp_nil]
              exact q4 _ _ hx10 hne
            · rw [List.append_assoc] at r2
              exact r2
          by_cases z1 : sn = 0
          · have z2 : x2 = 0 := Classical.byContradiction (fun q => hz ⟨z1, q⟩)
            subst z1
            subst z2
            refine stp hx10 ?_
            refine column_a m2 (fun k1 => ?_)
            obtain ⟨v4, G4, _, _, q1, q2, _⟩ := key k1 0
            refine stp (And.intro q1 q2) ?_
            refine column_a (c := 0) (by omega) (fun k2 => ?_)
            obtain ⟨v4', G4', v5, G5, q1', _, q3, q4, q5⟩ := key k1 k2
            rw [q1] at q1'
            obtain ⟨rfl, hGG⟩ := Prod.mk.inj (Option.some.inj q1')
            rw [hp_nil, hp_nil] at hGG
            subst hGG
            refine stp q3 ?_
            exact hJ2 G5 v5 q4 q5 rfl _ fgt
          · refine stp (And.intro z1 hx10) ?_
            refine column_a m2 (fun k1 => ?_)
            obtain ⟨v4, G4, _, _, q1, q2, _⟩ := key k1 0
            refine stp (And.intro q1 q2) ?_
            refine column_a m4 (fun k2 => ?_)
            obtain ⟨v4', G4', v5, G5, q1', _, q3, q4, q5⟩ := key k1 k2
            rw [q1] at q1'
            obtain ⟨rfl, hGG⟩ := Prod.mk.inj (Option.some.inj q1')
            rw [hp_nil, hp_nil] at hGG
            subst hGG
            refine stp q3 ?_
            exact hJ2 G5 v5 q4 q5 rfl _ fgt
    · clear hJ
      rw [List.take_of_length_le (by omega)] at hv2 hall
      rw [if_pos hall] at h
      have hfi := hfl l.length
      rw [List.take_of_length_le (Nat.le_refl _)] at hfi
      have hmul : l.length * (an + sn) ≤ 1000 * 4 := Nat.mul_le_mul (by omega) (by omega)
      refine stp0 ?_
      rw [hp_nil]
      obtain ⟨G5, k5, w1, w2⟩ := slat_shut hv2 (intsC_len _)
      refine acalls_shut (pre := []) w1 ?_
      refine bigsA_a (by omega) ?_
      rw [← hp_nil (H := G5)]
      refine stp0 ?_
      exact aret_past (past_hp (w2 H (Nat.le_refl _) hG) []) hs (by simp only [u_top, u_bool, u_int, u_str, u_nilp, u_nils, u_nilf, u_nilm, u_nili, u_emp, u_byteV, u_ptr, u_wr, u_wc, u_agg, u_tup, u_rd, u_imm, u_func, u_nil, u_cons, u_app, uc_nil, uc_cons, uc_app, u_bytes, uc_bytes, u_ints, uc_ints, cells_bool, cells_int, cells_str, cells_agg, cells_ptr, cells_nils, cells_imm, cells_wr, cells_wc, cells_nilp, cells_nilf, cells_nilm, cells_rd, cells_emp, cells_byteV, cells_func, and_self, and_true, true_and, u_slA, uc_strs, cells_slA, strV_is]) h
end
section
variable {H : AHeap} {K : AV → AHeap → Prop}
end
theorem frz_cons {t : Nat} {ts : List Nat} {a a1 : List AV} {H H1 : AHeap} (h : frzS [t] a H = some (a1, H1)) : frzS (t :: ts) a H = frzS ts a1 H1 := by
  simp only [frzS] at h ⊢
  cases hf : frz1 t a H with
  | none => rw [hf] at h; cases h
  | some p =>
    rw [hf] at h
    obtain ⟨rfl, rfl⟩ := Prod.mk.inj (Option.some.inj h)
    rfl
theorem deep_nil {id g : Nat} {e : TypeId} {pre : List AV} {H : AHeap} : deepL id e g pre [] H = some H := rfl
theorem deep_skip {id g : Nat} {e : TypeId} {pre r : List AV} {c : AV} {H : AHeap} (h : shut1 H c = none) : deepL id e g pre (c :: r) H = deepL id e g (pre ++ [c]) r H := by
  rw [deepL, h]
theorem deep_take {id g i : Nat} {e : TypeId} {pre r : List AV} {c c' : AV} {H : AHeap} (h : shut1 H c = some (c', i)) (hi : i ≠ id) : deepL id e g pre (c :: r) H = deepL id e g (pre ++ [c']) r ((H.kill i).set id (.row e g (pre ++ c' :: r))) := by
  rw [deepL, h]
  simp only
  rw [if_pos hi]
theorem shut1_wr {H : AHeap} {i g len sz : Nat} {e : TypeId} {cs : List AV} (hg : H.get i = some (.row e g cs)) (hl : len * sz ≤ cs.length) (ho : cs.all AV.one = true) : shut1 H (.wr i g 0 len sz) = some (.imm sz (chunkA sz len cs), i) := by
  simp only [shut1, hg]
  rw [if_pos ⟨trivial, trivial, hl, ho⟩]
theorem shut1_wc {H : AHeap} {i g len cap sz : Nat} {e : TypeId} {cs : List AV} (hg : H.get i = some (.row e g cs)) (hl : len * sz ≤ cs.length) (ho : cs.all AV.one = true) : shut1 H (.wc i g 0 len cap sz) = some (.imm sz (chunkA sz len cs), i) := by
  simp only [shut1, hg]
  rw [if_pos ⟨trivial, trivial, hl, ho⟩]
theorem aapp_grow {H : AHeap} {e : TypeId} {sz b id gen len n : Nat} {cs ys : List AV} {x : AV} (hg : H.get id = some (.row e gen cs)) (hc : acells H sz x = some (n, ys)) (hy : ys.all AV.one = true) (hn : 0 < n) (hl : len * sz ≤ cs.length) (hb : (len + n) * b ≤ 140737488355328) (ho : (cs.take (len * sz)).all AV.one = true) :
    aapp e sz b H (.wc id gen 0 len len sz) x = some (.wr H.next 0 0 (len + n) sz, H.push (.row e 0 (cs.take (len * sz) ++ ys))) := by
  unfold aapp
  rw [hc]
  simp only [hy, if_true, hg]
  rw [if_pos ⟨trivial, trivial, trivial, by omega, hb⟩, if_neg (by omega), List.drop_zero, if_pos ho]
theorem within_kill {H : AHeap} {n i : Nat} (h : H.within n) : (H.kill i).within n := fun id o h1 h2 => by
  simp only [AHeap.kill] at h2
  split at h2
  · cases h2
  · exact h id o h1 h2
def busT (a b c : Int) (ks : List Tr) : Tr := .mk [] 2 [(kAdr, four 1), (kSiz, four 1)] 2 [.mk [115, 111, 99] 2 [(kAdr, four 1), (kSiz, four 1), (kRng, fours [a, b, c])] (if ks = [] then 0 else 2) ks]
section
variable {H : AHeap} {K : AV → AHeap → Prop}
theorem lnumber_a {nm : List UInt8} {n : Int} (h : K (.agg [.str (B nm), .str (B (four n))]) H) : (ACalls Tryz.prog) 45 [.str (B nm), .int .i64 n] H K := by
  refine acalls_go mo t45 (fun hs hu => ?_)
  simp only [c45, go_sem, Nat.reduceLeDiff, Nat.reduceAdd, Nat.reduceSub, Nat.reduceMul, Nat.reduceLT, Int.reduceLT, Int.reduceLE, Int.reduceAdd, Int.reduceSub, Int.reduceMul, Int.reduceToNat, Int.reduceNeg, Int.reduceEq, Nat.reducePow, Int.reducePow, Nat.reduceEqDiff, decide_true, decide_false, reduceIte, reduceCtorEq, Int.reduceBEq, Int.reduceBNe, bne_self_eq_false, Int.cast_ofNat_Int, Bool.not_true, Bool.not_false, IntKind.bits]
  refine rbig_a ?_
  refine stp0 ?_
  exact aret_u hs (h)
theorem bus_a {a b c : Int} (h : ∀ (G : AHeap) (i0 i1 : Nat), Past H G → H.next ≤ i0 → H.next ≤ i1 → i0 ≠ i1 → G.get i0 = some (.row 55 0 [.str (B kAdr), .str (B (four 1)), .str (B kSiz), .str (B (four 1))]) →
      G.get i1 = some (.row 25 0 [.str (B [115, 111, 99]), .imm 2 [.agg [.str (B kAdr), .str (B (four 1))], .agg [.str (B kSiz), .str (B (four 1))], .agg [.str (B kRng), .str (B (fours [a, b, c]))]], .nils]) →
      K (.agg [.str (B []), .wc i0 0 0 2 2 2, .wr i1 0 0 1 3]) G) : (ACalls Tryz.prog) 46 [.agg [.int .i64 a, .int .i64 b, .int .i64 c]] H K := by
  refine acalls_go mo t46 (fun hs hu => ?_)
  have hka : kAdr = [35, 97, 100, 100, 114, 101, 115, 115, 45, 99, 101, 108, 108, 115] := rfl
  have hks : kSiz = [35, 115, 105, 122, 101, 45, 99, 101, 108, 108, 115] := rfl
  have hkr : kRng = [114, 97, 110, 103, 101, 115] := rfl
  simp only [c46, go_sem, Nat.reduceLeDiff, Nat.reduceAdd, Nat.reduceSub, Nat.reduceMul, Nat.reduceLT, Int.reduceLT, Int.reduceLE, Int.reduceAdd, Int.reduceSub, Int.reduceMul, Int.reduceToNat, Int.reduceNeg, Int.reduceEq, Nat.reducePow, Int.reducePow, Nat.reduceEqDiff, decide_true, decide_false, reduceIte, reduceCtorEq, Int.reduceBEq, Int.reduceBNe, bne_self_eq_false, Int.cast_ofNat_Int, Bool.not_true, Bool.not_false, IntKind.bits]
  rw [← hka, ← hks, ← hkr]
  refine lnumber_a ?_
  refine stp0 ?_
  refine lnumber_a ?_
  refine stp0 ?_
  rw [show AV.imm 1 [AV.int .i64 a, .int .i64 b, .int .i64 c] = .imm 1 ([a, b, c].map (.int .i64)) from rfl]
  refine rbigs_a (by simp) ?_
  have happ := aapp_grow (H := hp H [.row 78 0 [.int .i64 a, .int .i64 b, .int .i64 c], .row 25 0 [.str (B []), .nils, .nils], .row 55 0 [.str (B kAdr), .str (B (four 1)), .str (B kSiz), .str (B (four 1))]]) (e := 55) (sz := 2) (b := 32) (len := 2) (n := 1) (x := .imm 2 [.agg [.str (B kRng), .str (B (fours [a, b, c]))]]) (hp_get _ _ 2) (by rw [acells_imm, if_pos rfl]; rfl) rfl (by omega) (by decide) (by decide) rfl
  rw [hp_push] at happ
  have happ : aapp 55 2 32 (hp H [.row 78 0 [.int .i64 a, .int .i64 b, .int .i64 c], .row 25 0 [.str (B []), .nils, .nils], .row 55 0 [.str (B kAdr), .str (B (four 1)), .str (B kSiz), .str (B (four 1))]]) (.wc (H.next + 2) 0 0 2 2 2) (.imm 2 [.agg [.str (B kRng), .str (B (fours [a, b, c]))]]) = some (.wr (H.next + 3) 0 0 3 2, hp H [.row 78 0 [.int .i64 a, .int .i64 b, .int .i64 c], .row 25 0 [.str (B []), .nils, .nils], .row 55 0 [.str (B kAdr), .str (B (four 1)), .str (B kSiz), .str (B (four 1))], .row 55 0 [.str (B kAdr), .str (B (four 1)), .str (B kSiz), .str (B (four 1)), .str (B kRng), .str (B (fours [a, b, c]))]]) := happ
  refine stp happ ?_
  generalize hX : ([AV.agg [.str (B kAdr), .str (B (four 1))], .agg [.str (B kSiz), .str (B (four 1))], .agg [.str (B kRng), .str (B (fours [a, b, c]))]] : List AV) = X at *
  have hXu : ∀ n, AllC n X := fun n => by rw [← hX]; simp only [u_top, u_bool, u_int, u_str, u_nilp, u_nils, u_nilf, u_nilm, u_nili, u_emp, u_byteV, u_ptr, u_wr, u_wc, u_agg, u_tup, u_rd, u_imm, u_func, u_nil, u_cons, u_app, uc_nil, uc_cons, uc_app, u_bytes, uc_bytes, u_ints, uc_ints, cells_bool, cells_int, cells_str, cells_agg, cells_ptr, cells_nils, cells_imm, cells_wr, cells_wc, cells_nilp, cells_nilf, cells_nilm, cells_rd, cells_emp, cells_byteV, cells_func, and_self, and_true, true_and, u_slA, uc_strs, cells_slA, strV_is]
  generalize hL : ([.row 78 0 [.int .i64 a, .int .i64 b, .int .i64 c], .row 25 0 [.str (B []), .nils, .nils], .row 55 0 [.str (B kAdr), .str (B (four 1)), .str (B kSiz), .str (B (four 1))], .row 55 0 [.str (B kAdr), .str (B (four 1)), .str (B kSiz), .str (B (four 1)), .str (B kRng), .str (B (fours [a, b, c]))], .row 25 0 [.str (B [115, 111, 99]), .wr (H.next + 3) 0 0 3 2, .nils]] : List AObj) = L
  have hg : ∀ j (o : AObj), L[j]? = some o → (hp H L).get (H.next + j) = some o := fun j o e => by rw [hp_get, e]
  have hg1 : (hp H L).get (H.next + 1) = some (.row 25 0 [.str (B []), .nils, .nils]) := hg 1 _ (by rw [← hL]; rfl)
  have hg2 : (hp H L).get (H.next + 2) = some (.row 55 0 [.str (B kAdr), .str (B (four 1)), .str (B kSiz), .str (B (four 1))]) := hg 2 _ (by rw [← hL]; rfl)
  have hg3 : (hp H L).get (H.next + 3) = some (.row 55 0 [.str (B kAdr), .str (B (four 1)), .str (B kSiz), .str (B (four 1)), .str (B kRng), .str (B (fours [a, b, c]))]) := hg 3 _ (by rw [← hL]; rfl)
  have hg4 : (hp H L).get (H.next + 4) = some (.row 25 0 [.str (B [115, 111, 99]), .wr (H.next + 3) 0 0 3 2, .nils]) := hg 4 _ (by rw [← hL]; rfl)
  have hLn : (hp H L).next = H.next + 5 := by rw [hp_next, ← hL]; rfl
  have hw0 : (hp H L).within (hp H L).next := within_hp2 hs (fun o ho => by
    rw [← hp_next, hLn]
    rw [← hL] at ho
    simp only [List.mem_cons, List.mem_nil_iff, or_false] at ho
    rcases ho with rfl | rfl | rfl | rfl | rfl
    all_goals
      show AllU _ _
      simp only [u_top, u_bool, u_int, u_str, u_nilp, u_nils, u_nilf, u_nilm, u_nili, u_emp, u_byteV, u_ptr, u_wr, u_wc, u_agg, u_tup, u_rd, u_imm, u_func, u_nil, u_cons, u_app, uc_nil, uc_cons, uc_app, u_bytes, uc_bytes, u_ints, uc_ints, cells_bool, cells_int, cells_str, cells_agg, cells_ptr, cells_nils, cells_imm, cells_wr, cells_wc, cells_nilp, cells_nilf, cells_nilm, cells_rd, cells_emp, cells_byteV, cells_func, and_self, and_true, true_and, u_slA, uc_strs, cells_slA, strV_is]
    omega)
  have hP0 : Past H (hp H L) := past_hp past_refl _
  have hd : deepL (H.next + 4) 25 0 [] [.str (B [115, 111, 99]), .wr (H.next + 3) 0 0 3 2, .nils] (hp H L) = some (((hp H L).kill (H.next + 3)).set (H.next + 4) (.row 25 0 [.str (B [115, 111, 99]), .imm 2 X, .nils])) := by
    rw [deep_skip rfl, deep_take (shut1_wr hg3 (by simp) rfl) (by omega), deep_skip rfl, deep_nil, ← hX]
    rfl
  rw [frz_cons (frz_deep (t := 4) (by decide) (by decide) rfl hg4 hd)]
  have hk4 : ((hp H L).kill (H.next + 3)).next = H.next + 5 := hLn
  have hs4 : (((hp H L).kill (H.next + 3)).set (H.next + 4) (.row 25 0 [.str (B [115, 111, 99]), .imm 2 X, .nils])).get (H.next + 4) = some (.row 25 0 [.str (B [115, 111, 99]), .imm 2 X, .nils]) := set_got (by rw [hk4]; omega)
  rw [frz_one (t := 4) rfl hs4]
  have e1 : ((((hp H L).kill (H.next + 3)).set (H.next + 4) (.row 25 0 [.str (B [115, 111, 99]), .imm 2 X, .nils])).kill (H.next + 4)).get (H.next + 1) = some (.row 25 0 [.str (B []), .nils, .nils]) := by
    rw [kill_get_ne _ _ _ (by omega), set_other (by omega), kill_get_ne _ _ _ (by omega), hg1]
  have e2 : ((((hp H L).kill (H.next + 3)).set (H.next + 4) (.row 25 0 [.str (B [115, 111, 99]), .imm 2 X, .nils])).kill (H.next + 4)).get (H.next + 2) = some (.row 55 0 [.str (B kAdr), .str (B (four 1)), .str (B kSiz), .str (B (four 1))]) := by
    rw [kill_get_ne _ _ _ (by omega), set_other (by omega), kill_get_ne _ _ _ (by omega), hg2]
  have e3 : Past H ((((hp H L).kill (H.next + 3)).set (H.next + 4) (.row 25 0 [.str (B [115, 111, 99]), .imm 2 X, .nils])).kill (H.next + 4)) := past_kill (past_set (past_kill hP0 (by omega)) (by omega) _) (by omega)
  have e4 : ((((hp H L).kill (H.next + 3)).set (H.next + 4) (.row 25 0 [.str (B [115, 111, 99]), .imm 2 X, .nils])).kill (H.next + 4)).within (hp H L).next := within_kill (within_setO (within_kill hw0) (by
    show AllU _ _
    simp only [u_top, u_bool, u_int, u_str, u_nilp, u_nils, u_nilf, u_nilm, u_nili, u_emp, u_byteV, u_ptr, u_wr, u_wc, u_agg, u_tup, u_rd, u_imm, u_func, u_nil, u_cons, u_app, uc_nil, uc_cons, uc_app, u_bytes, uc_bytes, u_ints, uc_ints, cells_bool, cells_int, cells_str, cells_agg, cells_ptr, cells_nils, cells_imm, cells_wr, cells_wc, cells_nilp, cells_nilf, cells_nilm, cells_rd, cells_emp, cells_byteV, cells_func, and_self, and_true, true_and, u_slA, uc_strs, cells_slA, strV_is]
    exact hXu _))
  have e5 : ((((hp H L).kill (H.next + 3)).set (H.next + 4) (.row 25 0 [.str (B [115, 111, 99]), .imm 2 X, .nils])).kill (H.next + 4)).next = H.next + 5 := hLn
  rw [hLn] at e4
  generalize (((hp H L).kill (H.next + 3)).set (H.next + 4) (.row 25 0 [.str (B [115, 111, 99]), .imm 2 X, .nils])).kill (H.next + 4) = G at *
  clear hd hs4 hk4 hg4 hg3 hg2 hg1 hg hw0 hP0 hLn happ
  have hl1 := G.lt e1
  have hl2 := G.lt e2
  have fin : ARet H.next K (.agg [.str (B []), .wc (H.next + 2) 0 0 2 2 2, .wr (G.next + 0) 0 0 1 3]) (hp (G.set (H.next + 1) (.row 25 0 [.str (B []), .wc (H.next + 2) 0 0 2 2 2, .wr (G.next + 0) 0 0 1 3])) [.row 25 0 [.str (B [115, 111, 99]), .imm 2 X, .nils]]) := by
    have hPf : Past H (hp (G.set (H.next + 1) (.row 25 0 [.str (B []), .wc (H.next + 2) 0 0 2 2 2, .wr (G.next + 0) 0 0 1 3])) [.row 25 0 [.str (B [115, 111, 99]), .imm 2 X, .nils]]) := past_hp (past_set e3 (by omega) _) _
    have hnf : (hp (G.set (H.next + 1) (.row 25 0 [.str (B []), .wc (H.next + 2) 0 0 2 2 2, .wr (G.next + 0) 0 0 1 3])) [.row 25 0 [.str (B [115, 111, 99]), .imm 2 X, .nils]]).next = G.next + 1 := rfl
    refine aret_pastall hPf hs (within_hp (fun o ho => ?_) (fun id o h1 h2 => ?_)) ?_ (h _ (H.next + 2) (G.next + 0) hPf (by omega) (by omega) (by omega) ?_ ?_)
    · rw [List.mem_singleton] at ho
      subst ho
      show AllU _ _
      simp only [u_top, u_bool, u_int, u_str, u_nilp, u_nils, u_nilf, u_nilm, u_nili, u_emp, u_byteV, u_ptr, u_wr, u_wc, u_agg, u_tup, u_rd, u_imm, u_func, u_nil, u_cons, u_app, uc_nil, uc_cons, uc_app, u_bytes, uc_bytes, u_ints, uc_ints, cells_bool, cells_int, cells_str, cells_agg, cells_ptr, cells_nils, cells_imm, cells_wr, cells_wc, cells_nilp, cells_nilf, cells_nilm, cells_rd, cells_emp, cells_byteV, cells_func, and_self, and_true, true_and, u_slA, uc_strs, cells_slA, strV_is]
      exact hXu _
    · have hw2 : (G.set (H.next + 1) (.row 25 0 [.str (B []), .wc (H.next + 2) 0 0 2 2 2, .wr (G.next + 0) 0 0 1 3])).within (G.next + 1) := within_setO (fun id o h1 h2 => by
        by_cases hi : id < H.next + 5
        · exact up_obj (by omega) (e4 id o hi h2)
        · rw [G.wf id (by omega)] at h2
          cases h2) (by
        show AllU _ _
        simp only [u_top, u_bool, u_int, u_str, u_nilp, u_nils, u_nilf, u_nilm, u_nili, u_emp, u_byteV, u_ptr, u_wr, u_wc, u_agg, u_tup, u_rd, u_imm, u_func, u_nil, u_cons, u_app, uc_nil, uc_cons, uc_app, u_bytes, uc_bytes, u_ints, uc_ints, cells_bool, cells_int, cells_str, cells_agg, cells_ptr, cells_nils, cells_imm, cells_wr, cells_wc, cells_nilp, cells_nilf, cells_nilm, cells_rd, cells_emp, cells_byteV, cells_func, and_self, and_true, true_and, u_slA, uc_strs, cells_slA, strV_is]
        omega)
      exact hw2 id o (Nat.lt_succ_of_lt h1) h2
    · rw [hnf]
      simp only [u_top, u_bool, u_int, u_str, u_nilp, u_nils, u_nilf, u_nilm, u_nili, u_emp, u_byteV, u_ptr, u_wr, u_wc, u_agg, u_tup, u_rd, u_imm, u_func, u_nil, u_cons, u_app, uc_nil, uc_cons, uc_app, u_bytes, uc_bytes, u_ints, uc_ints, cells_bool, cells_int, cells_str, cells_agg, cells_ptr, cells_nils, cells_imm, cells_wr, cells_wc, cells_nilp, cells_nilf, cells_nilm, cells_rd, cells_emp, cells_byteV, cells_func, and_self, and_true, true_and, u_slA, uc_strs, cells_slA, strV_is]
      omega
    · rw [hp_old (by rw [set_next]; omega), set_other (by omega), e2]
    · exact hp_get _ _ 0
  rw [← hp_nil (H := G)]
  refine stp (And.intro e1 e2) ?_
  rw [go_both]
  refine ⟨?_, ?_⟩
  · refine stp (And.intro e1 e2) ?_
    exact fin
  · refine stp (And.intro e1 e2) ?_
    exact fin
end
def busK : Tr := .mk [107] 2 [(kReg, fours [2, 3])] 0 []
def bus48 : Tr := busT 0 4096 16 [busK]
theorem aw48_1 : cellsO tr0 = some (2, 1) := by kernel_rfl
theorem aw48_2 : putS 1 1 [(2, 3)] = (fours [2, 3], 0) := by kernel_rfl
theorem aw48_3 : regsS bus48 [47, 115, 111, 99, 47, 107] = ([(2, 3)], 0) := by kernel_rfl
theorem aw48_4 : upS bus48 [47, 115, 111, 99] 2 = (4098, 0) := by kernel_rfl
theorem aw48_5 : stepS bus48 [47, 115, 111, 99] 16 = (0, 2) := by kernel_rfl
theorem aw48_6 : stepS bus48 [47] 0 = (0, 8) := by kernel_rfl
theorem aw48_7 : memL bus48 = [] := by kernel_rfl
theorem join_nil {J : List (Int × Int)} (h : JoinOf [] J) : J = [] := join_one h ⟨by unfold SepJ; simp, fun b => by unfold covJ inL; simp⟩
theorem trm_busK : TrM 10 busK := .mk _ _ _ _ _ (by decide) (by decide) (fun p hp => by
  rw [List.mem_singleton] at hp
  subst hp
  exact ⟨by decide, by decide⟩) (by decide) (by simp)
theorem trm_bus {a b c : Int} {ks : List Tr} (hl : ks.length ≤ 10) (hk : ∀ k ∈ ks, TrM 10 k) : TrM 10 (busT a b c ks) := by
  have h4 : (four 1).length ≤ 100000 := by decide
  have h12 : (fours [a, b, c]).length ≤ 100000 := by rw [fours_len]; show (3 * 4 : Nat) ≤ _; decide
  refine .mk _ _ _ _ _ (by decide) (by show (2 : Nat) ≤ 10; decide) (fun p hp => ?_) (by show (1 : Nat) ≤ 10; decide) (fun k hk2 => ?_)
  · simp only [List.mem_cons, List.mem_nil_iff, or_false] at hp
    rcases hp with rfl | rfl <;> exact ⟨by decide, h4⟩
  · rw [List.mem_singleton] at hk2
    subst hk2
    refine .mk _ _ _ _ _ (by decide) (by show (3 : Nat) ≤ 10; decide) (fun p hp => ?_) hl hk
    simp only [List.mem_cons, List.mem_nil_iff, or_false] at hp
    rcases hp with rfl | rfl | rfl
    · exact ⟨by decide, h4⟩
    · exact ⟨by decide, h4⟩
    · exact ⟨by show (6 : Nat) ≤ 100000; decide, h12⟩
section
variable {H : AHeap} {K : AV → AHeap → Prop}
theorem awake48_a (h : K (.bool true) H) : (ACalls Tryz.prog) 31 [] H K := by
  refine acalls_go mo t31 (fun hs hu => ?_)
  have e0 : tr0.V = .agg [.str (B []), .nils, .nils] := tr0_V
  simp only [c31, go_sem, Nat.reduceLeDiff, Nat.reduceAdd, Nat.reduceSub, Nat.reduceMul, Nat.reduceLT, Int.reduceLT, Int.reduceLE, Int.reduceAdd, Int.reduceSub, Int.reduceMul, Int.reduceToNat, Int.reduceNeg, Int.reduceEq, Nat.reducePow, Int.reducePow, Nat.reduceEqDiff, decide_true, decide_false, reduceIte, reduceCtorEq, Int.reduceBEq, Int.reduceBNe, bne_self_eq_false, Int.cast_ofNat_Int, Bool.not_true, Bool.not_false, IntKind.bits]
  rw [← e0]
  refine cells_a (trm_ok (n := 10) (by omega) (trm_0 _)) (fun nm v hv => by cases hv) ?_
  rw [aw48_1, show cellsV (some (2, 1)) = .tup [.int .i64 2, .int .i64 1, .bool true] from rfl, e0]
  refine stp0 ?_
  rw [show AV.imm 2 [AV.agg [.int .i64 2, .int .i64 3]] = slA 2 2 ([((2 : Int), (3 : Int))].map spnV) from rfl]
  refine put_a (by decide) ?_
  rw [aw48_2]
  refine stp0 ?_
  refine bus_a (fun G i0 i1 hG h0 h1 h01 hg0 hg1 => ?_)
  rw [hp_nil] at hG h0 h1
  have hl0 := G.lt hg0
  have hl1 := G.lt hg1
  rw [← hp_nil (H := G)]
  refine stp (And.intro hg0 hg1) ?_
  have hP1 : Past H (G.set i1 (.row 25 0 [.str (B [115, 111, 99]), .imm 2 [.agg [.str (B kAdr), .str (B (four 1))], .agg [.str (B kSiz), .str (B (four 1))], .agg [.str (B kRng), .str (B (fours [0, 4096, 16]))]], .imm 3 [.agg [.str (B [107]), .imm 2 [.agg [.str (B kReg), .str (B (fours [2, 3]))]], .nils]]])) := past_set hG h1 _
  have hgA : (G.set i1 (.row 25 0 [.str (B [115, 111, 99]), .imm 2 [.agg [.str (B kAdr), .str (B (four 1))], .agg [.str (B kSiz), .str (B (four 1))], .agg [.str (B kRng), .str (B (fours [0, 4096, 16]))]], .imm 3 [.agg [.str (B [107]), .imm 2 [.agg [.str (B kReg), .str (B (fours [2, 3]))]], .nils]]])).get i0 = some (.row 55 0 [.str (B kAdr), .str (B (four 1)), .str (B kSiz), .str (B (four 1))]) := by rw [set_other h01, hg0]
  have hgB : (G.set i1 (.row 25 0 [.str (B [115, 111, 99]), .imm 2 [.agg [.str (B kAdr), .str (B (four 1))], .agg [.str (B kSiz), .str (B (four 1))], .agg [.str (B kRng), .str (B (fours [0, 4096, 16]))]], .imm 3 [.agg [.str (B [107]), .imm 2 [.agg [.str (B kReg), .str (B (fours [2, 3]))]], .nils]]])).get i1 = some (.row 25 0 [.str (B [115, 111, 99]), .imm 2 [.agg [.str (B kAdr), .str (B (four 1))], .agg [.str (B kSiz), .str (B (four 1))], .agg [.str (B kRng), .str (B (fours [0, 4096, 16]))]], .imm 3 [.agg [.str (B [107]), .imm 2 [.agg [.str (B kReg), .str (B (fours [2, 3]))]], .nils]]]) := set_got hl1
  have hnx : (G.set i1 (.row 25 0 [.str (B [115, 111, 99]), .imm 2 [.agg [.str (B kAdr), .str (B (four 1))], .agg [.str (B kSiz), .str (B (four 1))], .agg [.str (B kRng), .str (B (fours [0, 4096, 16]))]], .imm 3 [.agg [.str (B [107]), .imm 2 [.agg [.str (B kReg), .str (B (fours [2, 3]))]], .nils]]])).next = G.next := rfl
  rw [show ([114, 101, 103] : List UInt8) = kReg from rfl]
  generalize G.set i1 _ = G1 at *
  have hgC : (hp G1 [.row 25 0 [.str (B []), .wc i0 0 0 2 2 2, .wr i1 0 0 1 3]]).get (G.next + 0) = some (.row 25 0 [.str (B []), .wc i0 0 0 2 2 2, .wr i1 0 0 1 3]) := by
    rw [← hnx]
    exact hp_get _ _ 0
  have hgA := (hp_old (l := [.row 25 0 [.str (B []), .wc i0 0 0 2 2 2, .wr i1 0 0 1 3]]) (G1.lt hgA)).trans hgA
  have hgB := (hp_old (l := [.row 25 0 [.str (B []), .wc i0 0 0 2 2 2, .wr i1 0 0 1 3]]) (G1.lt hgB)).trans hgB
  have hP2 : Past H (hp G1 [.row 25 0 [.str (B []), .wc i0 0 0 2 2 2, .wr i1 0 0 1 3]]) := past_hp hP1 _
  generalize hp G1 [_] = G2 at *
  have hd1 := deep_take (id := G.next + 0) (g := 0) (e := 25) (pre := [.str (B [])]) (r := [.wr i1 0 0 1 3]) (shut1_wc (len := 2) (cap := 2) (sz := 2) hgA (by decide) rfl) (by omega)
  have hn2 := G2.lt hgC
  have hgB2 : ((G2.kill i0).set (G.next + 0) (.row 25 0 ([.str (B [])] ++ .imm 2 (chunkA 2 2 [.str (B kAdr), .str (B (four 1)), .str (B kSiz), .str (B (four 1))]) :: [.wr i1 0 0 1 3]))).get i1 = some (.row 25 0 [.str (B [115, 111, 99]), .imm 2 [.agg [.str (B kAdr), .str (B (four 1))], .agg [.str (B kSiz), .str (B (four 1))], .agg [.str (B kRng), .str (B (fours [0, 4096, 16]))]], .imm 3 [.agg [.str (B [107]), .imm 2 [.agg [.str (B kReg), .str (B (fours [2, 3]))]], .nils]]]) := by
    rw [set_other (by omega), kill_get_ne _ _ _ (fun e => h01 e.symm), hgB]
  have hd2 := deep_take (id := G.next + 0) (g := 0) (e := 25) (pre := [.str (B [])] ++ [.imm 2 (chunkA 2 2 [.str (B kAdr), .str (B (four 1)), .str (B kSiz), .str (B (four 1))])]) (r := []) (shut1_wr (len := 1) (sz := 3) hgB2 (by simp) rfl) (by omega)
  have hd : deepL (G.next + 0) 25 0 [] [.str (B []), .wc i0 0 0 2 2 2, .wr i1 0 0 1 3] G2 = _ := (deep_skip rfl).trans (hd1.trans (hd2.trans deep_nil))
  rw [frz_deep (t := 6) (by decide) (by decide) rfl hgC hd]
  clear hd hd1 hd2
  have hP3 := past_set (past_kill (past_set (past_kill hP2 h0) (show H.next ≤ G.next + 0 by omega) (.row 25 0 ([.str (B [])] ++ .imm 2 (chunkA 2 2 [.str (B kAdr), .str (B (four 1)), .str (B kSiz), .str (B (four 1))]) :: [.wr i1 0 0 1 3]))) h1) (show H.next ≤ G.next + 0 by omega) (.row 25 0 (([.str (B [])] ++ [.imm 2 (chunkA 2 2 [.str (B kAdr), .str (B (four 1)), .str (B kSiz), .str (B (four 1))])]) ++ .imm 3 (chunkA 3 1 [.str (B [115, 111, 99]), .imm 2 [.agg [.str (B kAdr), .str (B (four 1))], .agg [.str (B kSiz), .str (B (four 1))], .agg [.str (B kRng), .str (B (fours [0, 4096, 16]))]], .imm 3 [.agg [.str (B [107]), .imm 2 [.agg [.str (B kReg), .str (B (fours [2, 3]))]], .nils]]]) :: []))
  have hgF := set_got (H' := ((G2.kill i0).set (G.next + 0) (.row 25 0 ([.str (B [])] ++ .imm 2 (chunkA 2 2 [.str (B kAdr), .str (B (four 1)), .str (B kSiz), .str (B (four 1))]) :: [.wr i1 0 0 1 3]))).kill i1) (i := G.next + 0) (o := .row 25 0 (([.str (B [])] ++ [.imm 2 (chunkA 2 2 [.str (B kAdr), .str (B (four 1)), .str (B kSiz), .str (B (four 1))])]) ++ .imm 3 (chunkA 3 1 [.str (B [115, 111, 99]), .imm 2 [.agg [.str (B kAdr), .str (B (four 1))], .agg [.str (B kSiz), .str (B (four 1))], .agg [.str (B kRng), .str (B (fours [0, 4096, 16]))]], .imm 3 [.agg [.str (B [107]), .imm 2 [.agg [.str (B kReg), .str (B (fours [2, 3]))]], .nils]]]) :: [])) hn2
  generalize (((G2.kill i0).set (G.next + 0) (.row 25 0 ([.str (B [])] ++ .imm 2 (chunkA 2 2 [.str (B kAdr), .str (B (four 1)), .str (B kSiz), .str (B (four 1))]) :: [.wr i1 0 0 1 3]))).kill i1).set (G.next + 0) _ = G9 at *
  have hgF : G9.get (G.next + 0) = some (.row 25 0 [.str (B bus48.name), slA bus48.kp 2 (bus48.props.map propV), slA bus48.kk 3 (bus48.kids.map Tr.V)]) := hgF
  have hVi := Tr.V_is bus48
  have hm48 : TrM 10 bus48 := trm_bus (by decide) (fun k hk => by rw [List.mem_singleton] at hk; subst hk; exact trm_busK)
  have hlF := G9.lt hgF
  rw [← hp_nil (H := G9)]
  refine stp hgF ?_
  rw [← hVi]
  refine regs_a (by omega) hm48 (by decide) (fun k1 => ?_)
  rw [aw48_3]
  refine stp hgF ?_
  rw [← hVi]
  refine up_a (by omega) hm48 (by decide) ?_
  rw [aw48_4]
  refine stp hgF ?_
  rw [← hVi]
  refine step_a (by omega) hm48 (by decide) ?_
  rw [aw48_5]
  refine stp hgF ?_
  rw [← hVi]
  refine step_a (by omega) hm48 (by decide) ?_
  rw [aw48_6]
  refine stp hgF ?_
  refine same07_a (k2 := 2) (l := [(2, 3)]) (by decide) ?_
  refine stp hgF ?_
  rw [← hVi]
  refine memory_a (by omega) hm48 (by decide) (fun k hk => ?_) (fun k hk => ?_) (fun k2 J hJ _ => ?_)
  · rw [List.mem_singleton.1 hk]
    show (3 : Nat) ≤ 1000
    decide
  · rw [List.mem_singleton.1 hk]
    rw [show memK bus48 (.mk [115, 111, 99] 2 [(kAdr, four 1), (kSiz, four 1), (kRng, fours [0, 4096, 16])] (if [busK] = [] then 0 else 2) [busK]) = [] by kernel_rfl]
    decide
  · rw [aw48_7] at hJ
    obtain rfl := join_nil hJ
    simp (maxSteps := 4000000) (disch := (first | omega | (simp only [set_next, List.length_append, List.length_cons, List.length_nil, List.length_take, List.length_drop, List.length_map, List.length_set, List.length_replicate]; omega) | (simp only [set_next, ne_eq, reduceCtorEq, not_false_eq_true]))) only [List.map_nil, slA_len, List.length_nil, go_sem, Nat.reduceLeDiff, Nat.reduceAdd, Nat.reduceSub, Nat.reduceMul, Nat.reduceLT, Int.reduceLT, Int.reduceLE, Int.reduceAdd, Int.reduceSub, Int.reduceMul, Int.reduceToNat, Int.reduceNeg, Int.reduceEq, Nat.reducePow, Int.reducePow, Nat.reduceEqDiff, decide_true, decide_false, reduceIte, reduceCtorEq, Int.reduceBEq, Int.reduceBNe, bne_self_eq_false, Int.cast_ofNat_Int, Bool.not_true, Bool.not_false, IntKind.bits, w_nat, w_lit, w_add, w_addl, w_ladd, w_sub, w_subl, w_lsub, w_mul, w_mull, w_lmul, t_div, t_divl, t_mod, t_modl, i_lt, i_ltl, i_llt, i_le, i_lel, i_lle, i_eq, i_eql, i_leq, Nat.zero_le, d_beq, d_bne, d_bytes, byte_at, Int.toNat_natCast, toNat_lit, decide_eq_true, decide_eq_false, if_pos, if_neg, slA_len, slA_idx, slA_cells, flat_slA, one_slA, cells_slA, map_mid, strV_is, hp_get1, hp_get2, hp_get3, hp_set1, hp_set2, hp_set3, hp_old, hp_sold, set_got, set_set, set_next, set_other, bytesL, bytes_all, List.length_map, aapp_nils, aapp_wr, List.flatMap_cons, List.flatMap_nil, Nat.mul_one]
    exact aret_past (past_hp hP3 []) hs (by simp only [u_top, u_bool, u_int, u_str, u_nilp, u_nils, u_nilf, u_nilm, u_nili, u_emp, u_byteV, u_ptr, u_wr, u_wc, u_agg, u_tup, u_rd, u_imm, u_func, u_nil, u_cons, u_app, uc_nil, uc_cons, uc_app, u_bytes, uc_bytes, u_ints, uc_ints, cells_bool, cells_int, cells_str, cells_agg, cells_ptr, cells_nils, cells_imm, cells_wr, cells_wc, cells_nilp, cells_nilf, cells_nilm, cells_rd, cells_emp, cells_byteV, cells_func, and_self, and_true, true_and, u_slA, uc_strs, cells_slA, strV_is]) h
end
end Go.Proofs.YtmdgjfadbhenjaaGreatDoor.AL
