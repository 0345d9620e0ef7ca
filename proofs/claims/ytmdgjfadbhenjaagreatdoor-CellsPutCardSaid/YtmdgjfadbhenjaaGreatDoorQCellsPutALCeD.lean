/- Cells told: a bus; the program is awake. -/
import Derived.Test.YtmdgjfadbhenjaaGreatDoorQCellsPutALResP
import Derived.Test.YtmdgjfadbhenjaaGreatDoorQCellsPutALCeP
set_option linter.unusedSimpArgs false
set_option linter.unusedVariables false
set_option maxRecDepth 100000
set_option maxHeartbeats 16000000
namespace Go.Proofs.YtmdgjfadbhenjaaGreatDoor.AL
open Go Go.Proofs
attribute [local go_sem] go_seq go_skip go_region go_regionN go_fregion rgF_some go_cond go_block go_exit go_ret nxt_nil nxt_code nxt_blk nxt_cut leave_nil leave_code leave_cut leave_blk rtn_nil rtn_code rtn_blk rtn_cut cnd_t cnd_f rgn_nil rgY_some rgY_none rgH_some rgP_some retTo_is rgV_func grd_und grd_tt grd_ff grd_tf grd_ft rgn_q rgn_alloc rgn_box rgn_store rgn_lit rgn_litw rgn_litc litCells_nil litCells_cons rgn_app rgn_copy rgn_mk rgn_s2b rgn_call rgn_callv rgn_stop rgn_slice3 aslice3 rgn_slice3l aslice3l rgn_appz rgn_clear rgn_range rgn_next arange acap rgn_put rgn_mkmap rgn_lookup rgn_mapup alookup_nilm alookup_map amapup_map afound_ok afound_no rgn_c rgn_cv qclV_func aloadr rgn_guard post_ret post_normal retY_some ares aresL ares1 AX.ev aput List.getD_cons_zero List.getD_cons_succ List.set_cons_zero List.set_cons_succ List.map_cons List.map_nil aq abin aint astr abeq aconv asame aextract alenS alenL_nils alenL_emp alenL_imm alenL_wr alenL_wc aun apart aload afieldAddr afield aidxSl_wr aidxSl_wc aidxSl_imm aidxPt aidxStr aidxArr abound asliceStr asliceSl asliceArr abest anonil afill astore acells_nils acells_emp acells_imm acells_wr acells_wc acells_str acopy litAll amk as2b anil nilOf aseq aeqs aeqv fits fit1 hp_next hp_push hp_get hp_set List.length_cons List.length_nil List.getElem?_cons_zero List.getElem?_cons_succ List.cons_append List.nil_append List.append_nil List.take_succ_cons List.take_zero List.drop_succ_cons List.drop_zero List.all_cons List.all_nil Option.map_some Option.some.injEq Bool.and_true Bool.true_and Bool.false_eq_true if_true if_false ite_true ite_false Bool.and_self true_and and_true and_self Nat.zero_add Nat.le_refl Int.toNat_natCast beq_self_eq_true eq_self tops_zero tops_succ Int.natCast_nonneg List.take_nil List.drop_nil Option.map_none flat_bool one_bool cells_bool flat_int one_int cells_int flat_str one_str cells_str flat_nilp one_nilp cells_nilp flat_ptr one_ptr cells_ptr flat_nils one_nils cells_nils flat_imm one_imm cells_imm flat_wr one_wr cells_wr flat_wc one_wc cells_wc flat_func one_func cells_func flat_nilf one_nilf cells_nilf flat_map one_map cells_map flat_nilm one_nilm cells_nilm flat_iface one_iface cells_iface flat_nili one_nili cells_nili flat_rd one_rd cells_rd flat_emp one_emp cells_emp flat_byteV one_byteV cells_byteV flat_agg cells_agg one_agg B_size B_list B_ext B_toList B_app List.take_length Int.le_refl
theorem frz_cons {t : Nat} {ts : List Nat} {a a1 : List AV} {H H1 : AHeap} (h : frzS [t] a H = some (a1, H1)) : frzS (t :: ts) a H = frzS ts a1 H1 := by
  simp only [frzS] at h ⊢
  cases hf : frz1 t a H with
  | none => rw [hf] at h; cases h
  | some p =>
    rw [hf] at h
    obtain ⟨rfl, rfl⟩ := Prod.mk.inj (Option.some.inj h)
    rfl
theorem deep_nil {id g : Nat} {e : TypeId} {pre : List AV} {H : AHeap} : deepL id e g pre [] H = some H := rfl
theorem deep_skip {id g : Nat} {e : TypeId} {pre r : List AV} {c : AV} {H : AHeap} (h : shut1 H c = none) : deepL id e g pre (c :: r) H = deepL id e g (pre ++ [c]) r H := by
  rw [deepL, h]
theorem deep_take {id g i : Nat} {e : TypeId} {pre r : List AV} {c c' : AV} {H : AHeap} (h : shut1 H c = some (c', i)) (hi : i ≠ id) : deepL id e g pre (c :: r) H = deepL id e g (pre ++ [c']) r ((H.kill i).set id (.row e g (pre ++ c' :: r))) := by
  rw [deepL, h]
  simp only
  rw [if_pos hi]
theorem shut1_wr {H : AHeap} {i g len sz : Nat} {e : TypeId} {cs : List AV} (hg : H.get i = some (.row e g cs)) (hl : len * sz ≤ cs.length) (ho : cs.all AV.one = true) : shut1 H (.wr i g 0 len sz) = some (.imm sz (chunkA sz len cs), i) := by
  simp only [shut1, hg]
  rw [if_pos ⟨trivial, trivial, hl, ho⟩]
theorem shut1_wc {H : AHeap} {i g len cap sz : Nat} {e : TypeId} {cs : List AV} (hg : H.get i = some (.row e g cs)) (hl : len * sz ≤ cs.length) (ho : cs.all AV.one = true) : shut1 H (.wc i g 0 len cap sz) = some (.imm sz (chunkA sz len cs), i) := by
  simp only [shut1, hg]
  rw [if_pos ⟨trivial, trivial, hl, ho⟩]
theorem aapp_grow {H : AHeap} {e : TypeId} {sz b id gen len n : Nat} {cs ys : List AV} {x : AV} (hg : H.get id = some (.row e gen cs)) (hc : acells H sz x = some (n, ys)) (hy : ys.all AV.one = true) (hn : 0 < n) (hl : len * sz ≤ cs.length) (hb : (len + n) * b ≤ 140737488355328) (ho : (cs.take (len * sz)).all AV.one = true) :
    aapp e sz b H (.wc id gen 0 len len sz) x = some (.wr H.next 0 0 (len + n) sz, H.push (.row e 0 (cs.take (len * sz) ++ ys))) := by
  unfold aapp
  rw [hc]
  simp only [hy, if_true, hg]
  rw [if_pos ⟨trivial, trivial, trivial, by omega, hb⟩, if_neg (by omega), List.drop_zero, if_pos ho]
theorem within_kill {H : AHeap} {n i : Nat} (h : H.within n) : (H.kill i).within n := fun id o h1 h2 => by
  simp only [AHeap.kill] at h2
  split at h2
  · cases h2
  · exact h id o h1 h2
def busT (a b c : Int) (ks : List Tr) : Tr := .mk [] 2 [(kAdr, four 1), (kSiz, four 1)] 2 [.mk [115, 111, 99] 2 [(kAdr, four 1), (kSiz, four 1), (kRng, fours [a, b, c])] (if ks = [] then 0 else 2) ks]
section
variable {H : AHeap} {K : AV → AHeap → Prop}
theorem lnumber_a {nm : List UInt8} {n : Int} (h : K (.agg [.str (B nm), .str (B (four n))]) H) : (ACalls Tryz.prog) 45 [.str (B nm), .int .i64 n] H K := by
  refine acalls_go mo t45 (fun hs hu => ?_)
  simp only [c45, go_sem, Nat.reduceLeDiff, Nat.reduceAdd, Nat.reduceSub, Nat.reduceMul, Nat.reduceLT, Int.reduceLT, Int.reduceLE, Int.reduceAdd, Int.reduceSub, Int.reduceMul, Int.reduceToNat, Int.reduceNeg, Int.reduceEq, Nat.reducePow, Int.reducePow, Nat.reduceEqDiff, decide_true, decide_false, reduceIte, reduceCtorEq, Int.reduceBEq, Int.reduceBNe, bne_self_eq_false, Int.cast_ofNat_Int, Bool.not_true, Bool.not_false, IntKind.bits]
  refine rbig_a ?_
  refine stp0 ?_
  exact aret_u hs (h)
theorem bus_a {a b c : Int} (h : ∀ (G : AHeap) (i0 i1 : Nat), Past H G → H.next ≤ i0 → H.next ≤ i1 → i0 ≠ i1 → G.get i0 = some (.row 55 0 [.str (B kAdr), .str (B (four 1)), .str (B kSiz), .str (B (four 1))]) →
      G.get i1 = some (.row 25 0 [.str (B [115, 111, 99]), .imm 2 [.agg [.str (B kAdr), .str (B (four 1))], .agg [.str (B kSiz), .str (B (four 1))], .agg [.str (B kRng), .str (B (fours [a, b, c]))]], .nils]) →
      K (.agg [.str (B []), .wc i0 0 0 2 2 2, .wr i1 0 0 1 3]) G) : (ACalls Tryz.prog) 46 [.agg [.int .i64 a, .int .i64 b, .int .i64 c]] H K := by
  refine acalls_go mo t46 (fun hs hu => ?_)
  have hka : kAdr = [35, 97, 100, 100, 114, 101, 115, 115, 45, 99, 101, 108, 108, 115] := rfl
  have hks : kSiz = [35, 115, 105, 122, 101, 45, 99, 101, 108, 108, 115] := rfl
  have hkr : kRng = [114, 97, 110, 103, 101, 115] := rfl
  simp only [c46, go_sem, Nat.reduceLeDiff, Nat.reduceAdd, Nat.reduceSub, Nat.reduceMul, Nat.reduceLT, Int.reduceLT, Int.reduceLE, Int.reduceAdd, Int.reduceSub, Int.reduceMul, Int.reduceToNat, Int.reduceNeg, Int.reduceEq, Nat.reducePow, Int.reducePow, Nat.reduceEqDiff, decide_true, decide_false, reduceIte, reduceCtorEq, Int.reduceBEq, Int.reduceBNe, bne_self_eq_false, Int.cast_ofNat_Int, Bool.not_true, Bool.not_false, IntKind.bits]
  rw [← hka, ← hks, ← hkr]
  refine lnumber_a ?_
  refine stp0 ?_
  refine lnumber_a ?_
  refine stp0 ?_
  rw [show AV.imm 1 [AV.int .i64 a, .int .i64 b, .int .i64 c] = .imm 1 ([a, b, c].map (.int .i64)) from rfl]
  refine rbigs_a (by simp) ?_
  have happ := aapp_grow (H := hp H [.row 78 0 [.int .i64 a, .int .i64 b, .int .i64 c], .row 25 0 [.str (B []), .nils, .nils], .row 55 0 [.str (B kAdr), .str (B (four 1)), .str (B kSiz), .str (B (four 1))]]) (e := 55) (sz := 2) (b := 32) (len := 2) (n := 1) (x := .imm 2 [.agg [.str (B kRng), .str (B (fours [a, b, c]))]]) (hp_get _ _ 2) (by rw [acells_imm, if_pos rfl]; rfl) rfl (by omega) (by decide) (by decide) rfl
  rw [hp_push] at happ
  have happ : aapp 55 2 32 (hp H [.row 78 0 [.int .i64 a, .int .i64 b, .int .i64 c], .row 25 0 [.str (B []), .nils, .nils], .row 55 0 [.str (B kAdr), .str (B (four 1)), .str (B kSiz), .str (B (four 1))]]) (.wc (H.next + 2) 0 0 2 2 2) (.imm 2 [.agg [.str (B kRng), .str (B (fours [a, b, c]))]]) = some (.wr (H.next + 3) 0 0 3 2, hp H [.row 78 0 [.int .i64 a, .int .i64 b, .int .i64 c], .row 25 0 [.str (B []), .nils, .nils], .row 55 0 [.str (B kAdr), .str (B (four 1)), .str (B kSiz), .str (B (four 1))], .row 55 0 [.str (B kAdr), .str (B (four 1)), .str (B kSiz), .str (B (four 1)), .str (B kRng), .str (B (fours [a, b, c]))]]) := happ
  refine stp happ ?_
  generalize hX : ([AV.agg [.str (B kAdr), .str (B (four 1))], .agg [.str (B kSiz), .str (B (four 1))], .agg [.str (B kRng), .str (B (fours [a, b, c]))]] : List AV) = X at *
  have hXu : ∀ n, AllC n X := fun n => by rw [← hX]; simp only [u_top, u_bool, u_int, u_str, u_nilp, u_nils, u_nilf, u_nilm, u_nili, u_emp, u_byteV, u_ptr, u_wr, u_wc, u_agg, u_tup, u_rd, u_imm, u_func, u_nil, u_cons, u_app, uc_nil, uc_cons, uc_app, u_bytes, uc_bytes, u_ints, uc_ints, cells_bool, cells_int, cells_str, cells_agg, cells_ptr, cells_nils, cells_imm, cells_wr, cells_wc, cells_nilp, cells_nilf, cells_nilm, cells_rd, cells_emp, cells_byteV, cells_func, and_self, and_true, true_and, u_slA, uc_strs, cells_slA, strV_is]
  generalize hL : ([.row 78 0 [.int .i64 a, .int .i64 b, .int .i64 c], .row 25 0 [.str (B []), .nils, .nils], .row 55 0 [.str (B kAdr), .str (B (four 1)), .str (B kSiz), .str (B (four 1))], .row 55 0 [.str (B kAdr), .str (B (four 1)), .str (B kSiz), .str (B (four 1)), .str (B kRng), .str (B (fours [a, b, c]))], .row 25 0 [.str (B [115, 111, 99]), .wr (H.next + 3) 0 0 3 2, .nils]] : List AObj) = L
  have hg : ∀ j (o : AObj), L[j]? = some o → (hp H L).get (H.next + j) = some o := fun j o e => by rw [hp_get, e]
  have hg1 : (hp H L).get (H.next + 1) = some (.row 25 0 [.str (B []), .nils, .nils]) := hg 1 _ (by rw [← hL]; rfl)
  have hg2 : (hp H L).get (H.next + 2) = some (.row 55 0 [.str (B kAdr), .str (B (four 1)), .str (B kSiz), .str (B (four 1))]) := hg 2 _ (by rw [← hL]; rfl)
  have hg3 : (hp H L).get (H.next + 3) = some (.row 55 0 [.str (B kAdr), .str (B (four 1)), .str (B kSiz), .str (B (four 1)), .str (B kRng), .str (B (fours [a, b, c]))]) := hg 3 _ (by rw [← hL]; rfl)
  have hg4 : (hp H L).get (H.next + 4) = some (.row 25 0 [.str (B [115, 111, 99]), .wr (H.next + 3) 0 0 3 2, .nils]) := hg 4 _ (by rw [← hL]; rfl)
  have hLn : (hp H L).next = H.next + 5 := by rw [hp_next, ← hL]; rfl
  have hw0 : (hp H L).within (hp H L).next := within_hp2 hs (fun o ho => by
    rw [← hp_next, hLn]
    rw [← hL] at ho
    simp only [List.mem_cons, List.mem_nil_iff, or_false] at ho
    rcases ho with rfl | rfl | rfl | rfl | rfl
    all_goals
      show AllU _ _
      simp only [u_top, u_bool, u_int, u_str, u_nilp, u_nils, u_nilf, u_nilm, u_nili, u_emp, u_byteV, u_ptr, u_wr, u_wc, u_agg, u_tup, u_rd, u_imm, u_func, u_nil, u_cons, u_app, uc_nil, uc_cons, uc_app, u_bytes, uc_bytes, u_ints, uc_ints, cells_bool, cells_int, cells_str, cells_agg, cells_ptr, cells_nils, cells_imm, cells_wr, cells_wc, cells_nilp, cells_nilf, cells_nilm, cells_rd, cells_emp, cells_byteV, cells_func, and_self, and_true, true_and, u_slA, uc_strs, cells_slA, strV_is]
    omega)
  have hP0 : Past H (hp H L) := past_hp past_refl _
  have hd : deepL (H.next + 4) 25 0 [] [.str (B [115, 111, 99]), .wr (H.next + 3) 0 0 3 2, .nils] (hp H L) = some (((hp H L).kill (H.next + 3)).set (H.next + 4) (.row 25 0 [.str (B [115, 111, 99]), .imm 2 X, .nils])) := by
    rw [deep_skip rfl, deep_take (shut1_wr hg3 (by simp) rfl) (by omega), deep_skip rfl, deep_nil, ← hX]
    rfl
  rw [frz_cons (frz_deep (t := 4) (by decide) (by decide) rfl hg4 hd)]
  have hk4 : ((hp H L).kill (H.next + 3)).next = H.next + 5 := hLn
  have hs4 : (((hp H L).kill (H.next + 3)).set (H.next + 4) (.row 25 0 [.str (B [115, 111, 99]), .imm 2 X, .nils])).get (H.next + 4) = some (.row 25 0 [.str (B [115, 111, 99]), .imm 2 X, .nils]) := set_got (by rw [hk4]; omega)
  rw [frz_one (t := 4) rfl hs4]
  have e1 : ((((hp H L).kill (H.next + 3)).set (H.next + 4) (.row 25 0 [.str (B [115, 111, 99]), .imm 2 X, .nils])).kill (H.next + 4)).get (H.next + 1) = some (.row 25 0 [.str (B []), .nils, .nils]) := by
    rw [kill_get_ne _ _ _ (by omega), set_other (by omega), kill_get_ne _ _ _ (by omega), hg1]
  have e2 : ((((hp H L).kill (H.next + 3)).set (H.next + 4) (.row 25 0 [.str (B [115, 111, 99]), .imm 2 X, .nils])).kill (H.next + 4)).get (H.next + 2) = some (.row 55 0 [.str (B kAdr), .str (B (four 1)), .str (B kSiz), .str (B (four 1))]) := by
    rw [kill_get_ne _ _ _ (by omega), set_other (by omega), kill_get_ne _ _ _ (by omega), hg2]
  have e3 : Past H ((((hp H L).kill (H.next + 3)).set (H.next + 4) (.row 25 0 [.str (B [115, 111, 99]), .imm 2 X, .nils])).kill (H.next + 4)) := past_kill (past_set (past_kill hP0 (by omega)) (by omega) _) (by omega)
  have e4 : ((((hp H L).kill (H.next + 3)).set (H.next + 4) (.row 25 0 [.str (B [115, 111, 99]), .imm 2 X, .nils])).kill (H.next + 4)).within (hp H L).next := within_kill (within_setO (within_kill hw0) (by
    show AllU _ _
    simp only [u_top, u_bool, u_int, u_str, u_nilp, u_nils, u_nilf, u_nilm, u_nili, u_emp, u_byteV, u_ptr, u_wr, u_wc, u_agg, u_tup, u_rd, u_imm, u_func, u_nil, u_cons, u_app, uc_nil, uc_cons, uc_app, u_bytes, uc_bytes, u_ints, uc_ints, cells_bool, cells_int, cells_str, cells_agg, cells_ptr, cells_nils, cells_imm, cells_wr, cells_wc, cells_nilp, cells_nilf, cells_nilm, cells_rd, cells_emp, cells_byteV, cells_func, and_self, and_true, true_and, u_slA, uc_strs, cells_slA, strV_is]
    exact hXu _))
  have e5 : ((((hp H L).kill (H.next + 3)).set (H.next + 4) (.row 25 0 [.str (B [115, 111, 99]), .imm 2 X, .nils])).kill (H.next + 4)).next = H.next + 5 := hLn
  rw [hLn] at e4
  generalize (((hp H L).kill (H.next + 3)).set (H.next + 4) (.row 25 0 [.str (B [115, 111, 99]), .imm 2 X, .nils])).kill (H.next + 4) = G at *
  clear hd hs4 hk4 hg4 hg3 hg2 hg1 hg hw0 hP0 hLn happ
  have hl1 := G.lt e1
  have hl2 := G.lt e2
  have fin : ARet H.next K (.agg [.str (B []), .wc (H.next + 2) 0 0 2 2 2, .wr (G.next + 0) 0 0 1 3]) (hp (G.set (H.next + 1) (.row 25 0 [.str (B []), .wc (H.next + 2) 0 0 2 2 2, .wr (G.next + 0) 0 0 1 3])) [.row 25 0 [.str (B [115, 111, 99]), .imm 2 X, .nils]]) := by
    have hPf : Past H (hp (G.set (H.next + 1) (.row 25 0 [.str (B []), .wc (H.next + 2) 0 0 2 2 2, .wr (G.next + 0) 0 0 1 3])) [.row 25 0 [.str (B [115, 111, 99]), .imm 2 X, .nils]]) := past_hp (past_set e3 (by omega) _) _
    have hnf : (hp (G.set (H.next + 1) (.row 25 0 [.str (B []), .wc (H.next + 2) 0 0 2 2 2, .wr (G.next + 0) 0 0 1 3])) [.row 25 0 [.str (B [115, 111, 99]), .imm 2 X, .nils]]).next = G.next + 1 := rfl
    refine aret_pastall hPf hs (within_hp (fun o ho => ?_) (fun id o h1 h2 => ?_)) ?_ (h _ (H.next + 2) (G.next + 0) hPf (by omega) (by omega) (by omega) ?_ ?_)
    · rw [List.mem_singleton] at ho
      subst ho
      show AllU _ _
      simp only [u_top, u_bool, u_int, u_str, u_nilp, u_nils, u_nilf, u_nilm, u_nili, u_emp, u_byteV, u_ptr, u_wr, u_wc, u_agg, u_tup, u_rd, u_imm, u_func, u_nil, u_cons, u_app, uc_nil, uc_cons, uc_app, u_bytes, uc_bytes, u_ints, uc_ints, cells_bool, cells_int, cells_str, cells_agg, cells_ptr, cells_nils, cells_imm, cells_wr, cells_wc, cells_nilp, cells_nilf, cells_nilm, cells_rd, cells_emp, cells_byteV, cells_func, and_self, and_true, true_and, u_slA, uc_strs, cells_slA, strV_is]
      exact hXu _
    · have hw2 : (G.set (H.next + 1) (.row 25 0 [.str (B []), .wc (H.next + 2) 0 0 2 2 2, .wr (G.next + 0) 0 0 1 3])).within (G.next + 1) := within_setO (fun id o h1 h2 => by
        by_cases hi : id < H.next + 5
        · exact up_obj (by omega) (e4 id o hi h2)
        · rw [G.wf id (by omega)] at h2
          cases h2) (by
        show AllU _ _
        simp only [u_top, u_bool, u_int, u_str, u_nilp, u_nils, u_nilf, u_nilm, u_nili, u_emp, u_byteV, u_ptr, u_wr, u_wc, u_agg, u_tup, u_rd, u_imm, u_func, u_nil, u_cons, u_app, uc_nil, uc_cons, uc_app, u_bytes, uc_bytes, u_ints, uc_ints, cells_bool, cells_int, cells_str, cells_agg, cells_ptr, cells_nils, cells_imm, cells_wr, cells_wc, cells_nilp, cells_nilf, cells_nilm, cells_rd, cells_emp, cells_byteV, cells_func, and_self, and_true, true_and, u_slA, uc_strs, cells_slA, strV_is]
        omega)
      exact hw2 id o (Nat.lt_succ_of_lt h1) h2
    · rw [hnf]
      simp only [u_top, u_bool, u_int, u_str, u_nilp, u_nils, u_nilf, u_nilm, u_nili, u_emp, u_byteV, u_ptr, u_wr, u_wc, u_agg, u_tup, u_rd, u_imm, u_func, u_nil, u_cons, u_app, uc_nil, uc_cons, uc_app, u_bytes, uc_bytes, u_ints, uc_ints, cells_bool, cells_int, cells_str, cells_agg, cells_ptr, cells_nils, cells_imm, cells_wr, cells_wc, cells_nilp, cells_nilf, cells_nilm, cells_rd, cells_emp, cells_byteV, cells_func, and_self, and_true, true_and, u_slA, uc_strs, cells_slA, strV_is]
      omega
    · rw [hp_old (by rw [set_next]; omega), set_other (by omega), e2]
    · exact hp_get _ _ 0
  rw [← hp_nil (H := G)]
  refine stp (And.intro e1 e2) ?_
  rw [go_both]
  refine ⟨?_, ?_⟩
  · refine stp (And.intro e1 e2) ?_
    exact fin
  · refine stp (And.intro e1 e2) ?_
    exact fin
end
def busK : Tr := .mk [107] 2 [(kReg, fours [2, 3])] 0 []
def bus48 : Tr := busT 0 4096 16 [busK]
theorem aw48_1 : cellsO tr0 = some (2, 1) := by kernel_rfl
theorem aw48_2 : putS 1 1 [(2, 3)] = (fours [2, 3], 0) := by kernel_rfl
theorem aw48_3 : regsS bus48 [47, 115, 111, 99, 47, 107] = ([(2, 3)], 0) := by kernel_rfl
theorem aw48_4 : upS bus48 [47, 115, 111, 99] 2 = (4098, 0) := by kernel_rfl
theorem aw48_5 : stepS bus48 [47, 115, 111, 99] 16 = (0, 2) := by kernel_rfl
theorem aw48_6 : stepS bus48 [47] 0 = (0, 8) := by kernel_rfl
theorem aw48_7 : memL bus48 = [] := by kernel_rfl
theorem join_nil {J : List (Int × Int)} (h : JoinOf [] J) : J = [] := join_one h ⟨by unfold SepJ; simp, fun b => by unfold covJ inL; simp⟩
theorem trm_busK : TrM 10 busK := .mk _ _ _ _ _ (by decide) (by decide) (fun p hp => by
  rw [List.mem_singleton] at hp
  subst hp
  exact ⟨by decide, by decide⟩) (by decide) (by simp)
theorem trm_bus {a b c : Int} {ks : List Tr} (hl : ks.length ≤ 10) (hk : ∀ k ∈ ks, TrM 10 k) : TrM 10 (busT a b c ks) := by
  have h4 : (four 1).length ≤ 100000 := by decide
  have h12 : (fours [a, b, c]).length ≤ 100000 := by rw [fours_len]; show (3 * 4 : Nat) ≤ _; decide
  refine .mk _ _ _ _ _ (by decide) (by show (2 : Nat) ≤ 10; decide) (fun p hp => ?_) (by show (1 : Nat) ≤ 10; decide) (fun k hk2 => ?_)
  · simp only [List.mem_cons, List.mem_nil_iff, or_false] at hp
    rcases hp with rfl | rfl <;> exact ⟨by decide, h4⟩
  · rw [List.mem_singleton] at hk2
    subst hk2
    refine .mk _ _ _ _ _ (by decide) (by show (3 : Nat) ≤ 10; decide) (fun p hp => ?_) hl hk
    simp only [List.mem_cons, List.mem_nil_iff, or_false] at hp
    rcases hp with rfl | rfl | rfl
    · exact ⟨by decide, h4⟩
    · exact ⟨by decide, h4⟩
    · exact ⟨by show (6 : Nat) ≤ 100000; decide, h12⟩
section
variable {H : AHeap} {K : AV → AHeap → Prop}
theorem awake48_a (h : K (.bool true) H) : (ACalls Tryz.prog) 31 [] H K := by
  refine acalls_go mo t31 (fun hs hu => ?_)
  have e0 : tr0.V = .agg [.str (B []), .nils, .nils] := tr0_V
  simp only [c31, go_sem, Nat.reduceLeDiff, Nat.reduceAdd, Nat.reduceSub, Nat.reduceMul, Nat.reduceLT, Int.reduceLT, Int.reduceLE, Int.reduceAdd, Int.reduceSub, Int.reduceMul, Int.reduceToNat, Int.reduceNeg, Int.reduceEq, Nat.reducePow, Int.reducePow, Nat.reduceEqDiff, decide_true, decide_false, reduceIte, reduceCtorEq, Int.reduceBEq, Int.reduceBNe, bne_self_eq_false, Int.cast_ofNat_Int, Bool.not_true, Bool.not_false, IntKind.bits]
  rw [← e0]
  refine cells_a (trm_ok (n := 10) (by omega) (trm_0 _)) (fun nm v hv => by cases hv) ?_
  rw [aw48_1, show cellsV (some (2, 1)) = .tup [.int .i64 2, .int .i64 1, .bool true] from rfl, e0]
  refine stp0 ?_
  rw [show AV.imm 2 [AV.agg [.int .i64 2, .int .i64 3]] = slA 2 2 ([((2 : Int), (3 : Int))].map spnV) from rfl]
  refine put_a (by decide) ?_
  rw [aw48_2]
  refine stp0 ?_
  refine bus_a (fun G i0 i1 hG h0 h1 h01 hg0 hg1 => ?_)
  rw [hp_nil] at hG h0 h1
  have hl0 := G.lt hg0
  have hl1 := G.lt hg1
  rw [← hp_nil (H := G)]
  refine stp (And.intro hg0 hg1) ?_
  have hP1 : Past H (G.set i1 (.row 25 0 [.str (B [115, 111, 99]), .imm 2 [.agg [.str (B kAdr), .str (B (four 1))], .agg [.str (B kSiz), .str (B (four 1))], .agg [.str (B kRng), .str (B (fours [0, 4096, 16]))]], .imm 3 [.agg [.str (B [107]), .imm 2 [.agg [.str (B kReg), .str (B (fours [2, 3]))]], .nils]]])) := past_set hG h1 _
  have hgA : (G.set i1 (.row 25 0 [.str (B [115, 111, 99]), .imm 2 [.agg [.str (B kAdr), .str (B (four 1))], .agg [.str (B kSiz), .str (B (four 1))], .agg [.str (B kRng), .str (B (fours [0, 4096, 16]))]], .imm 3 [.agg [.str (B [107]), .imm 2 [.agg [.str (B kReg), .str (B (fours [2, 3]))]], .nils]]])).get i0 = some (.row 55 0 [.str (B kAdr), .str (B (four 1)), .str (B kSiz), .str (B (four 1))]) := by rw [set_other h01, hg0]
  have hgB : (G.set i1 (.row 25 0 [.str (B [115, 111, 99]), .imm 2 [.agg [.str (B kAdr), .str (B (four 1))], .agg [.str (B kSiz), .str (B (four 1))], .agg [.str (B kRng), .str (B (fours [0, 4096, 16]))]], .imm 3 [.agg [.str (B [107]), .imm 2 [.agg [.str (B kReg), .str (B (fours [2, 3]))]], .nils]]])).get i1 = some (.row 25 0 [.str (B [115, 111, 99]), .imm 2 [.agg [.str (B kAdr), .str (B (four 1))], .agg [.str (B kSiz), .str (B (four 1))], .agg [.str (B kRng), .str (B (fours [0, 4096, 16]))]], .imm 3 [.agg [.str (B [107]), .imm 2 [.agg [.str (B kReg), .str (B (fours [2, 3]))]], .nils]]]) := set_got hl1
  have hnx : (G.set i1 (.row 25 0 [.str (B [115, 111, 99]), .imm 2 [.agg [.str (B kAdr), .str (B (four 1))], .agg [.str (B kSiz), .str (B (four 1))], .agg [.str (B kRng), .str (B (fours [0, 4096, 16]))]], .imm 3 [.agg [.str (B [107]), .imm 2 [.agg [.str (B kReg), .str (B (fours [2, 3]))]], .nils]]])).next = G.next := rfl
  rw [show ([114, 101, 103] : List UInt8) = kReg from rfl]
  generalize G.set i1 _ = G1 at *
  have hgC : (hp G1 [.row 25 0 [.str (B []), .wc i0 0 0 2 2 2, .wr i1 0 0 1 3]]).get (G.next + 0) = some (.row 25 0 [.str (B []), .wc i0 0 0 2 2 2, .wr i1 0 0 1 3]) := by
    rw [← hnx]
    exact hp_get _ _ 0
  have hgA := (hp_old (l := [.row 25 0 [.str (B []), .wc i0 0 0 2 2 2, .wr i1 0 0 1 3]]) (G1.lt hgA)).trans hgA
  have hgB := (hp_old (l := [.row 25 0 [.str (B []), .wc i0 0 0 2 2 2, .wr i1 0 0 1 3]]) (G1.lt hgB)).trans hgB
  have hP2 : Past H (hp G1 [.row 25 0 [.str (B []), .wc i0 0 0 2 2 2, .wr i1 0 0 1 3]]) := past_hp hP1 _
  generalize hp G1 [_] = G2 at *
  have hd1 := deep_take (id := G.next + 0) (g := 0) (e := 25) (pre := [.str (B [])]) (r := [.wr i1 0 0 1 3]) (shut1_wc (len := 2) (cap := 2) (sz := 2) hgA (by decide) rfl) (by omega)
  have hn2 := G2.lt hgC
  have hgB2 : ((G2.kill i0).set (G.next + 0) (.row 25 0 ([.str (B [])] ++ .imm 2 (chunkA 2 2 [.str (B kAdr), .str (B (four 1)), .str (B kSiz), .str (B (four 1))]) :: [.wr i1 0 0 1 3]))).get i1 = some (.row 25 0 [.str (B [115, 111, 99]), .imm 2 [.agg [.str (B kAdr), .str (B (four 1))], .agg [.str (B kSiz), .str (B (four 1))], .agg [.str (B kRng), .str (B (fours [0, 4096, 16]))]], .imm 3 [.agg [.str (B [107]), .imm 2 [.agg [.str (B kReg), .str (B (fours [2, 3]))]], .nils]]]) := by
    rw [set_other (by omega), kill_get_ne _ _ _ (fun e => h01 e.symm), hgB]
  have hd2 := deep_take (id := G.next + 0) (g := 0) (e := 25) (pre := [.str (B [])] ++ [.imm 2 (chunkA 2 2 [.str (B kAdr), .str (B (four 1)), .str (B kSiz), .str (B (four 1))])]) (r := []) (shut1_wr (len := 1) (sz := 3) hgB2 (by simp) rfl) (by omega)
  have hd : deepL (G.next + 0) 25 0 [] [.str (B []), .wc i0 0 0 2 2 2, .wr i1 0 0 1 3] G2 = _ := (deep_skip rfl).trans (hd1.trans (hd2.trans deep_nil))
  rw [frz_deep (t := 6) (by decide) (by decide) rfl hgC hd]
  clear hd hd1 hd2
  have hP3 := past_set (past_kill (past_set (past_kill hP2 h0) (show H.next ≤ G.next + 0 by omega) (.row 25 0 ([.str (B [])] ++ .imm 2 (chunkA 2 2 [.str (B kAdr), .str (B (four 1)), .str (B kSiz), .str (B (four 1))]) :: [.wr i1 0 0 1 3]))) h1) (show H.next ≤ G.next + 0 by omega) (.row 25 0 (([.str (B [])] ++ [.imm 2 (chunkA 2 2 [.str (B kAdr), .str (B (four 1)), .str (B kSiz), .str (B (four 1))])]) ++ .imm 3 (chunkA 3 1 [.str (B [115, 111, 99]), .imm 2 [.agg [.str (B kAdr), .str (B (four 1))], .agg [.str (B kSiz), .str (B (four 1))], .agg [.str (B kRng), .str (B (fours [0, 4096, 16]))]], .imm 3 [.agg [.str (B [107]), .imm 2 [.agg [.str (B kReg), .str (B (fours [2, 3]))]], .nils]]]) :: []))
  have hgF := set_got (H' := ((G2.kill i0).set (G.next + 0) (.row 25 0 ([.str (B [])] ++ .imm 2 (chunkA 2 2 [.str (B kAdr), .str (B (four 1)), .str (B kSiz), .str (B (four 1))]) :: [.wr i1 0 0 1 3]))).kill i1) (i := G.next + 0) (o := .row 25 0 (([.str (B [])] ++ [.imm 2 (chunkA 2 2 [.str (B kAdr), .str (B (four 1)), .str (B kSiz), .str (B (four 1))])]) ++ .imm 3 (chunkA 3 1 [.str (B [115, 111, 99]), .imm 2 [.agg [.str (B kAdr), .str (B (four 1))], .agg [.str (B kSiz), .str (B (four 1))], .agg [.str (B kRng), .str (B (fours [0, 4096, 16]))]], .imm 3 [.agg [.str (B [107]), .imm 2 [.agg [.str (B kReg), .str (B (fours [2, 3]))]], .nils]]]) :: [])) hn2
  generalize (((G2.kill i0).set (G.next + 0) (.row 25 0 ([.str (B [])] ++ .imm 2 (chunkA 2 2 [.str (B kAdr), .str (B (four 1)), .str (B kSiz), .str (B (four 1))]) :: [.wr i1 0 0 1 3]))).kill i1).set (G.next + 0) _ = G9 at *
  have hgF : G9.get (G.next + 0) = some (.row 25 0 [.str (B bus48.name), slA bus48.kp 2 (bus48.props.map propV), slA bus48.kk 3 (bus48.kids.map Tr.V)]) := hgF
  have hVi := Tr.V_is bus48
  have hm48 : TrM 10 bus48 := trm_bus (by decide) (fun k hk => by rw [List.mem_singleton] at hk; subst hk; exact trm_busK)
  have hlF := G9.lt hgF
  rw [← hp_nil (H := G9)]
  refine stp hgF ?_
  rw [← hVi]
  refine regs_a (by omega) hm48 (by decide) (fun k1 => ?_)
  rw [aw48_3]
  refine stp hgF ?_
  rw [← hVi]
  refine up_a (by omega) hm48 (by decide) ?_
  rw [aw48_4]
  refine stp hgF ?_
  rw [← hVi]
  refine step_a (by omega) hm48 (by decide) ?_
  rw [aw48_5]
  refine stp hgF ?_
  rw [← hVi]
  refine step_a (by omega) hm48 (by decide) ?_
  rw [aw48_6]
  refine stp hgF ?_
  refine same07_a (k2 := 2) (l := [(2, 3)]) (by decide) ?_
  refine stp hgF ?_
  rw [← hVi]
  refine memory_a (by omega) hm48 (by decide) (fun k hk => ?_) (fun k hk => ?_) (fun k2 J hJ _ => ?_)
  · rw [List.mem_singleton.1 hk]
    show (3 : Nat) ≤ 1000
    decide
  · rw [List.mem_singleton.1 hk]
    rw [show memK bus48 (.mk [115, 111, 99] 2 [(kAdr, four 1), (kSiz, four 1), (kRng, fours [0, 4096, 16])] (if [busK] = [] then 0 else 2) [busK]) = [] by kernel_rfl]
    decide
  · rw [aw48_7] at hJ
    obtain rfl := join_nil hJ
    simp (maxSteps := 4000000) (disch := (first | omega | (simp only [set_next, List.length_append, List.length_cons, List.length_nil, List.length_take, List.length_drop, List.length_map, List.length_set, List.length_replicate]; omega) | (simp only [set_next, ne_eq, reduceCtorEq, not_false_eq_true]))) only [List.map_nil, slA_len, List.length_nil, go_sem, Nat.reduceLeDiff, Nat.reduceAdd, Nat.reduceSub, Nat.reduceMul, Nat.reduceLT, Int.reduceLT, Int.reduceLE, Int.reduceAdd, Int.reduceSub, Int.reduceMul, Int.reduceToNat, Int.reduceNeg, Int.reduceEq, Nat.reducePow, Int.reducePow, Nat.reduceEqDiff, decide_true, decide_false, reduceIte, reduceCtorEq, Int.reduceBEq, Int.reduceBNe, bne_self_eq_false, Int.cast_ofNat_Int, Bool.not_true, Bool.not_false, IntKind.bits, w_nat, w_lit, w_add, w_addl, w_ladd, w_sub, w_subl, w_lsub, w_mul, w_mull, w_lmul, t_div, t_divl, t_mod, t_modl, i_lt, i_ltl, i_llt, i_le, i_lel, i_lle, i_eq, i_eql, i_leq, Nat.zero_le, d_beq, d_bne, d_bytes, byte_at, Int.toNat_natCast, toNat_lit, decide_eq_true, decide_eq_false, if_pos, if_neg, slA_len, slA_idx, slA_cells, flat_slA, one_slA, cells_slA, map_mid, strV_is, hp_get1, hp_get2, hp_get3, hp_set1, hp_set2, hp_set3, hp_old, hp_sold, set_got, set_set, set_next, set_other, bytesL, bytes_all, List.length_map, aapp_nils, aapp_wr, List.flatMap_cons, List.flatMap_nil, Nat.mul_one]
    exact aret_past (past_hp hP3 []) hs (by simp only [u_top, u_bool, u_int, u_str, u_nilp, u_nils, u_nilf, u_nilm, u_nili, u_emp, u_byteV, u_ptr, u_wr, u_wc, u_agg, u_tup, u_rd, u_imm, u_func, u_nil, u_cons, u_app, uc_nil, uc_cons, uc_app, u_bytes, uc_bytes, u_ints, uc_ints, cells_bool, cells_int, cells_str, cells_agg, cells_ptr, cells_nils, cells_imm, cells_wr, cells_wc, cells_nilp, cells_nilf, cells_nilm, cells_rd, cells_emp, cells_byteV, cells_func, and_self, and_true, true_and, u_slA, uc_strs, cells_slA, strV_is]) h
end
def YSi (a : List AV) : Prop := ∃ n, (Lit.int .i64 n).wf = true ∧ a = [.int .i64 n]
def YSp (zs : List AV) : Prop := ∃ a a2 : List AV, zs = a ++ a2 ∧ YSi a ∧ YSi a2
theorem openSp : Opens Tryz.prog 93 YSp :=
  opens_struct (sz := 1 + 1) Tryz.underlying93 (by kernel_rfl) (fun n => fields_cons rfl (by kernel_rfl) (opens_int Tryz.underlying3 n) (fields_one rfl (by kernel_rfl) (opens_int Tryz.underlying3 n)))
theorem sp_of {ys : List AV} (hy : YSp ys) : ∃ p : Int × Int, ys = [.int .i64 p.1, .int .i64 p.2] := by
  obtain ⟨_, _, rfl, ⟨n1, _, rfl⟩, ⟨n2, _, rfl⟩⟩ := hy
  exact ⟨(n1, n2), rfl⟩
def YSps (zs : List AV) : Prop := ∃ (k : Nat) (l : List (Int × Int)), zs = [slA k 2 (l.map spnV)] ∧ l.length ≤ 9223372036854775807
theorem openSps : Opens Tryz.prog 26 YSps :=
  opens_slA (f := fun p : Int × Int => [.int .i64 p.1, .int .i64 p.2]) (g := spnV) .agg Tryz.underlying26 (by kernel_rfl) (by decide) (fun ys hy => sp_of hy) (fun _ => rfl) (fun _ => rfl) openSp
def putT (a s : Int) (v : List UInt8) : Tr := .mk [] 2 [(kAdr, four a), (kSiz, four s)] 2 [.mk [107] 2 [(kReg, v)] 0 []]
theorem fam_put (a s : Int) (v : List UInt8) : famO (putT a s v) [47, 107] = some (.mk [107] 2 [(kReg, v)] 0 [], putT a s v) := rfl
theorem val_put (v : List UInt8) : valT (.mk [107] 2 [(kReg, v)] 0 []) kReg = some v := rfl
theorem cols_sp {a s : Nat} (ha1 : 1 ≤ a) (ha2 : a ≤ 2) (hs : s ≤ 2) {x : Int × Int} (hx : okSp s x = true) (rest : List Int) : colsR [a, s] (cellsSp a s x ++ rest) = some [x.1, x.2] := by
  have ha : a = 1 ∨ a = 2 := by omega
  have hs3 : s = 0 ∨ s = 1 ∨ s = 2 := by omega
  obtain ⟨x1, x2⟩ := x
  rcases ha with rfl | rfl <;> rcases hs3 with rfl | rfl | rfl
  · have h0 : x2 = 0 := by
      unfold okSp at hx
      simp only [Bool.and_eq_true, decide_true, Bool.true_and, Bool.not_eq_true', decide_eq_false_iff_not, Decidable.not_not] at hx
      exact hx.2
    subst h0
    rfl
  · rfl
  · rfl
  · have h0 : x2 = 0 := by
      unfold okSp at hx
      simp only [Bool.and_eq_true, decide_true, Bool.true_and, Bool.not_eq_true', decide_eq_false_iff_not, Decidable.not_not] at hx
      exact hx.2
    subst h0
    rfl
  · rfl
  · rfl
theorem cellsSp_len {a s : Nat} (ha : a ≤ 2) (hs : s ≤ 2) (x : Int × Int) : (cellsSp a s x).length = a + s := by unfold cellsSp; rw [List.length_append, colL_len ha, colL_len hs]
theorem rows_sp {a s : Nat} (ha1 : 1 ≤ a) (ha2 : a ≤ 2) (hs : s ≤ 2) : ∀ (l : List (Int × Int)), (∀ x ∈ l, okSp s x = true) → rowsR [a, s] (a + s) l.length (l.flatMap (cellsSp a s)) = some (l.map fun x => [x.1, x.2])
  | [], _ => rfl
  | x :: l, h => by
    rw [List.length_cons, rowsR, List.flatMap_cons, cols_sp ha1 ha2 hs (h x List.mem_cons_self)]
    have e : (cellsSp a s x ++ l.flatMap (cellsSp a s)).drop (a + s) = l.flatMap (cellsSp a s) := by
      rw [← cellsSp_len ha2 hs x, List.drop_left]
    rw [e, rows_sp ha1 ha2 hs l (fun y hy => h y (List.mem_cons_of_mem _ hy))]
    rfl
theorem cells_32 {a s : Nat} {l : List (Int × Int)} (h : ∀ x ∈ l, okSp s x = true) : ∀ n ∈ l.flatMap (cellsSp a s), 0 ≤ n ∧ n ≤ 4294967295 := fun n hn => by
  obtain ⟨x, hx, hn⟩ := List.mem_flatMap.1 hn
  have h1 := h x hx
  unfold okSp at h1
  simp only [Bool.and_eq_true] at h1
  have h2 := in32_is.1 h1.1.1
  have h3 := in32_is.1 h1.1.2
  have hc : ∀ (m : Int) (c : Nat), n ∈ colL m c → n = m ∨ n = 0 := fun m c hm => by
    unfold colL at hm
    split at hm
    · cases hm
    · split at hm
      · rw [List.mem_singleton] at hm
        exact .inl hm
      · simp only [List.mem_cons, List.mem_nil_iff, or_false] at hm
        rcases hm with q | q
        · exact .inr q
        · exact .inl q
  rcases List.mem_append.1 hn with q | q
  · rcases hc _ _ q with e | e <;> omega
  · rcases hc _ _ q with e | e <;> omega
theorem regs_put {a s : Nat} (ha1 : 1 ≤ a) (ha2 : a ≤ 2) (hs : s ≤ 2) {l : List (Int × Int)} (h : ∀ x ∈ l, okSp s x = true) : regsS (putT a s (fours (l.flatMap (cellsSp a s)))) [47, 107] = (l, 0) := by
  have hc : cellsO (putT a s (fours (l.flatMap (cellsSp a s)))) = some (a, s) := by
    have ha : a = 1 ∨ a = 2 := by omega
    have hs3 : s = 0 ∨ s = 1 ∨ s = 2 := by omega
    rcases ha with rfl | rfl <;> rcases hs3 with rfl | rfl | rfl <;> rfl
  unfold regsS
  rw [fam_put]
  simp only
  rw [val_put]
  simp only
  rw [hc]
  simp only
  have hfl : (l.flatMap (cellsSp a s)).length = l.length * (a + s) := by
    clear hc h
    induction l with
    | nil => simp
    | cons x l ih => rw [List.flatMap_cons, List.length_append, ih, cellsSp_len ha2 hs, List.length_cons, Nat.succ_mul]; omega
  have hl : (fours (l.flatMap (cellsSp a s))).length = l.length * (a + s) * 4 := by rw [fours_len, hfl]
  have hw : words (l.length * (a + s)) (fours (l.flatMap (cellsSp a s))) = l.flatMap (cellsSp a s) := by
    rw [← hfl, words_fours]
    conv => rhs; rw [← List.map_id (l.flatMap (cellsSp a s))]
    exact List.map_congr_left (fun n hn => by
      have := cells_32 (a := a) h n hn
      show n % 4294967296 = n
      omega)
  have hsum : [a, s].sum = a + s := by simp
  have hr : rowsS (fours (l.flatMap (cellsSp a s))) [a, s] = (l.map (fun x => [x.1, x.2]), 0) := by
    unfold rowsS
    rw [hl, hsum, Nat.mul_div_cancel _ (by omega), Nat.mul_div_cancel _ (by omega), hw, if_pos ⟨Nat.mul_mod_left _ _, by omega, Nat.mul_mod_left _ _⟩, rows_sp ha1 ha2 hs l h]
  rw [hr]
  simp only [List.map_map]
  refine Prod.ext ?_ rfl
  show l.map _ = l
  conv => rhs; rw [← List.map_id l]
  exact List.map_congr_left (fun x _ => rfl)
theorem putS_len {a s : Int} {l : List (Int × Int)} (hl : l.length ≤ 20) : (putS a s l).1.length ≤ 400 := by
  unfold putS
  split
  · rename_i hm
    unfold mayC at hm
    simp only [Bool.and_eq_true, decide_eq_true_eq] at hm
    split
    · show (fours _).length ≤ _
      rw [fours_len]
      have : (l.flatMap (cellsSp a.toNat s.toNat)).length ≤ l.length * 4 := by
        clear hl
        have ha2 : a.toNat ≤ 2 := by omega
        have hs2 : s.toNat ≤ 2 := by omega
        induction l with
        | nil => simp
        | cons x l ih =>
          have ih := ih (by rename_i hq; rw [List.all_cons, Bool.and_eq_true] at hq; exact hq.2)
          rw [List.flatMap_cons, List.length_append, cellsSp_len ha2 hs2, List.length_cons, Nat.succ_mul]
          omega
      omega
    · exact Nat.zero_le _
  · exact Nat.zero_le _
theorem trm_put {a s : Int} {v : List UInt8} (hv : v.length ≤ 1000) : TrM 10 (putT a s v) := by
  have h4 : ∀ n, (four n).length ≤ 100000 := fun n => by show (4 : Nat) ≤ _; decide
  refine .mk _ _ _ _ _ (by decide) (by show (2 : Nat) ≤ 10; decide) (fun p hp => ?_) (by show (1 : Nat) ≤ 10; decide) (fun k hk => ?_)
  · simp only [List.mem_cons, List.mem_nil_iff, or_false] at hp
    rcases hp with rfl | rfl
    · exact ⟨by show (14 : Nat) ≤ 100000; decide, h4 _⟩
    · exact ⟨by show (11 : Nat) ≤ 100000; decide, h4 _⟩
  · rw [List.mem_singleton] at hk
    subst hk
    refine .mk _ _ _ _ _ (by decide) (by show (1 : Nat) ≤ 10; decide) (fun p hp => ?_) (by decide) (by simp)
    rw [List.mem_singleton] at hp
    subst hp
    exact ⟨by show (3 : Nat) ≤ 100000; decide, by show v.length ≤ _; omega⟩
theorem law_CellsPut (a0 a1 : Int) (y2 : AV) (hY2 : YSps [y2]) {H : AHeap} : (ACalls Tryz.prog) 9 [.int .i64 a0, .int .i64 a1, y2] H (fun y _ => y = .bool true) := by
  obtain ⟨k, l, h, hl⟩ := hY2
  obtain rfl : y2 = _ := List.head_eq_of_cons_eq h
  clear h
  have hka : kAdr = [35, 97, 100, 100, 114, 101, 115, 115, 45, 99, 101, 108, 108, 115] := rfl
  have hks : kSiz = [35, 115, 105, 122, 101, 45, 99, 101, 108, 108, 115] := rfl
  refine acalls_go mo t9 (fun hs hu => ?_)
  simp only [c9, go_sem, Nat.reduceLeDiff, Nat.reduceAdd, Nat.reduceSub, Nat.reduceMul, Nat.reduceLT, Int.reduceLT, Int.reduceLE, Int.reduceAdd, Int.reduceSub, Int.reduceMul, Int.reduceToNat, Int.reduceNeg, Int.reduceEq, Nat.reducePow, Int.reducePow, Nat.reduceEqDiff, decide_true, decide_false, reduceIte, reduceCtorEq, Int.reduceBEq, Int.reduceBNe, bne_self_eq_false, Int.cast_ofNat_Int, Bool.not_true, Bool.not_false, IntKind.bits]
  by_cases h1 : l.length ≤ 20
  · have h2 : ¬ 20 < l.length := by omega
    refine stp h2 ?_
    refine put_a (by omega) ?_
    refine stp0 ?_
    refine rput_a (by omega) ?_
    have hplen := putS_len (a := a0) (s := a1) h1
    have hback : (putS a0 a1 l).2 = 0 → regsS (putT a0 a1 (putS a0 a1 l).1) [47, 107] = (l, 0) := fun he => by
      unfold putS at he ⊢
      split at he
      · rename_i hm
        split at he
        · rename_i ha
          rw [if_pos hm, if_pos ha]
          unfold mayC at hm
          simp only [Bool.and_eq_true, decide_eq_true_eq] at hm
          obtain ⟨an, rfl⟩ : ∃ an : Nat, a0 = an := ⟨a0.toNat, by omega⟩
          obtain ⟨sn, rfl⟩ : ∃ sn : Nat, a1 = sn := ⟨a1.toNat, by omega⟩
          simp only [Int.toNat_natCast] at ha ⊢
          exact regs_put (by omega) (by omega) (by omega) (List.all_eq_true.1 ha)
        · cases he
      · cases he
    generalize putS a0 a1 l = r at *
    simp (maxSteps := 4000000) (disch := (first | omega | (simp only [set_next, List.length_append, List.length_cons, List.length_nil, List.length_take, List.length_drop, List.length_map, List.length_set, List.length_replicate]; omega) | (simp only [set_next, ne_eq, reduceCtorEq, not_false_eq_true]))) only [bne_self_eq_false, go_sem, Nat.reduceLeDiff, Nat.reduceAdd, Nat.reduceSub, Nat.reduceMul, Nat.reduceLT, Int.reduceLT, Int.reduceLE, Int.reduceAdd, Int.reduceSub, Int.reduceMul, Int.reduceToNat, Int.reduceNeg, Int.reduceEq, Nat.reducePow, Int.reducePow, Nat.reduceEqDiff, decide_true, decide_false, reduceIte, reduceCtorEq, Int.reduceBEq, Int.reduceBNe, bne_self_eq_false, Int.cast_ofNat_Int, Bool.not_true, Bool.not_false, IntKind.bits, w_nat, w_lit, w_add, w_addl, w_ladd, w_sub, w_subl, w_lsub, w_mul, w_mull, w_lmul, t_div, t_divl, t_mod, t_modl, i_lt, i_ltl, i_llt, i_le, i_lel, i_lle, i_eq, i_eql, i_leq, Nat.zero_le, d_beq, d_bne, d_bytes, byte_at, Int.toNat_natCast, toNat_lit, decide_eq_true, decide_eq_false, if_pos, if_neg, slA_len, slA_idx, slA_cells, flat_slA, one_slA, cells_slA, map_mid, strV_is, hp_get1, hp_get2, hp_get3, hp_set1, hp_set2, hp_set3, hp_old, hp_sold, set_got, set_set, set_next, set_other, bytesL, bytes_all, List.length_map, aapp_nils, aapp_wr, List.flatMap_cons, List.flatMap_nil, Nat.mul_one]
    rw [← hka]
    refine lnumber_a ?_
    refine stp0 ?_
    rw [← hks]
    refine lnumber_a ?_
    refine stp0 ?_
    have hVi := Tr.V_is (putT a0 a1 r.1)
    have hV : (putT a0 a1 r.1).V = .agg [.str (B []), .imm 2 [.agg [.str (B kAdr), .str (B (four a0))], .agg [.str (B kSiz), .str (B (four a1))]], .imm 3 [.agg [.str (B [107]), .imm 2 [.agg [.str (B [114, 101, 103]), .str (B r.1)]], .nils]]] := rfl
    rw [← hV]
    refine regs_a (n := 10) (by omega) (trm_put (by omega)) (by decide) (fun k2 => ?_)
    by_cases he : r.2 = 0
    · rw [hback he]
      refine stp he ?_
      refine same07_a (by omega) ?_
      refine stp0 ?_
      refine awake48_a ?_
      refine stp0 ?_
      exact aret_plain (K := fun y _ => y = .bool true) hs (.bool _) rfl
    · generalize regsS (putT a0 a1 r.1) [47, 107] = R
      refine stp he ?_
      refine awake48_a ?_
      refine stp0 ?_
      exact aret_plain (K := fun y _ => y = .bool true) hs (.bool _) rfl
  · have h2 : 20 < l.length := by omega
    refine stp h2 ?_
    refine awake48_a ?_
    refine stp0 ?_
    exact aret_plain (K := fun y _ => y = .bool true) hs (.bool _) rfl
end Go.Proofs.YtmdgjfadbhenjaaGreatDoor.AL
