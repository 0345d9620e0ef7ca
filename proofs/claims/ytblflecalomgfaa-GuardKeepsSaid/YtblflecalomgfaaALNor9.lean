/- What must come, whatever the arguments are. -/
import Derived.Test.YtblflecalomgfaaALNor8
set_option linter.unusedSimpArgs false
set_option linter.unusedVariables false
set_option maxRecDepth 100000
namespace Go.Proofs.Ytblflecalomgfaa.AL
open Go Go.Proofs
attribute [local go_sem] go_seq go_skip go_region go_regionN go_cond go_block go_exit go_ret nxt_nil nxt_code nxt_blk nxt_cut leave_nil leave_code leave_cut leave_blk rtn_nil rtn_code rtn_blk rtn_cut cnd_t cnd_f rgn_nil rgY_some rgY_none rgH_some rgP_some retTo_is rgV_func grd_und grd_tt grd_ff grd_tf grd_ft rgn_q rgn_alloc rgn_box rgn_store rgn_lit rgn_litw litCells_nil litCells_cons rgn_app rgn_copy rgn_mk rgn_s2b rgn_call rgn_callv rgn_stop rgn_slice3 aslice3 rgn_put rgn_mkmap rgn_lookup rgn_mapup alookup_nilm alookup_map amapup_map afound_ok afound_no rgn_c rgn_cv qclV_func aloadr rgn_guard post_ret post_normal retY_some ares aresL ares1 AX.ev aput List.getD_cons_zero List.getD_cons_succ List.set_cons_zero List.set_cons_succ List.map_cons List.map_nil aq abin aint astr abeq aconv asame aextract alenS alenL_nils alenL_emp alenL_imm alenL_wr aun apart aload afieldAddr afield aidxSl_wr aidxSl_imm aidxPt aidxStr aidxArr abound asliceStr asliceSl asliceArr abest anonil afill astore acells_nils acells_emp acells_imm acells_wr acells_str acopy litAll amk as2b anil nilOf aseq aeqs aeqv fits fit1 hp_next hp_push hp_get hp_set List.length_cons List.length_nil List.getElem?_cons_zero List.getElem?_cons_succ List.cons_append List.nil_append List.append_nil List.take_succ_cons List.take_zero List.drop_succ_cons List.drop_zero List.all_cons List.all_nil Option.map_some Option.some.injEq Bool.and_true Bool.true_and Bool.false_eq_true if_true if_false ite_true ite_false Bool.and_self true_and and_true and_self Nat.zero_add Nat.le_refl Int.toNat_natCast beq_self_eq_true eq_self tops_zero tops_succ Int.natCast_nonneg List.take_nil List.drop_nil Option.map_none flat_bool one_bool cells_bool flat_int one_int cells_int flat_str one_str cells_str flat_nilp one_nilp cells_nilp flat_ptr one_ptr cells_ptr flat_nils one_nils cells_nils flat_imm one_imm cells_imm flat_wr one_wr cells_wr flat_func one_func cells_func flat_nilf one_nilf cells_nilf flat_map one_map cells_map flat_nilm one_nilm cells_nilm flat_iface one_iface cells_iface flat_nili one_nili cells_nili flat_rd one_rd cells_rd flat_emp one_emp cells_emp flat_byteV one_byteV cells_byteV flat_agg cells_agg one_agg B_size B_list B_ext B_toList B_app List.take_length Int.le_refl
def Chp.power (x : Chp) : Chp := { x with on := true, fuse := -1 }
theorem power_a {H : AHeap} {b c : Nat} (ok : ChipOk H b c) {x : Chp} {K : AV → AHeap → Prop} (h : K (.tup []) (chipAt H b c x.power)) : (ACalls Try.prog) 80 [.ptr c 0 0] (chipAt H b c x) K := by
  refine acalls_go mo t80 (fun hs hu => ?_)
  have hc := chip_c ok x
  have hlt : c < (chipAt H b c x).next := ok.c
  have hset := chip_setc ok (x := x) x.power rfl
  rw [Chp.row_is] at hset
  simp only [Chp.power] at hset
  simp only [c80, go_sem, Nat.reduceLeDiff, Nat.reduceAdd, Nat.reduceSub, Nat.reduceMul, Nat.reduceLT, Int.reduceLT, Int.reduceLE, Int.reduceAdd, Int.reduceSub, Int.reduceMul, Int.reduceToNat, Int.reduceNeg, Int.reduceEq, Nat.reducePow, Int.reducePow, Nat.reduceEqDiff, decide_true, decide_false, reduceIte, reduceCtorEq, Int.reduceBEq, Int.reduceBNe, bne_self_eq_false, Int.cast_ofNat_Int, Bool.not_true, Bool.not_false, IntKind.bits]
  simp (maxSteps := 4000000) (disch := (first | omega | (simp only [set_next, List.length_append, List.length_cons, List.length_nil, List.length_take, List.length_drop, List.length_map, List.length_set, List.length_replicate]; omega) | (simp only [set_next, ne_eq, reduceCtorEq, not_false_eq_true]))) only [hc, Chp.row_is, go_sem, Nat.reduceLeDiff, Nat.reduceAdd, Nat.reduceSub, Nat.reduceMul, Nat.reduceLT, Int.reduceLT, Int.reduceLE, Int.reduceAdd, Int.reduceSub, Int.reduceMul, Int.reduceToNat, Int.reduceNeg, Int.reduceEq, Nat.reducePow, Int.reducePow, Nat.reduceEqDiff, decide_true, decide_false, reduceIte, reduceCtorEq, Int.reduceBEq, Int.reduceBNe, bne_self_eq_false, Int.cast_ofNat_Int, Bool.not_true, Bool.not_false, IntKind.bits, w_nat, w_lit, w_add, w_addl, w_ladd, w_sub, w_subl, w_lsub, w_mul, w_mull, w_lmul, t_div, t_divl, t_mod, t_modl, i_lt, i_ltl, i_llt, i_le, i_lel, i_lle, i_eq, i_eql, i_leq, Nat.zero_le, d_beq, d_bne, d_bytes, byte_at, Int.toNat_natCast, toNat_lit, decide_eq_true, decide_eq_false, if_pos, if_neg, slA_len, slA_idx, slA_cells, flat_slA, one_slA, cells_slA, map_mid, strV_is, hp_get1, hp_get2, hp_get3, hp_set1, hp_set2, hp_set3, hp_old, hp_sold, set_got, set_set, set_next, set_other, bytesL, bytes_all, List.length_map, aapp_nils, aapp_wr, List.flatMap_cons, List.flatMap_nil, Nat.mul_one]
  rw [hset]
  exact aret_old rfl (chip_in ok hs) (.tup _ (by simp)) h
theorem power_l {H : AHeap} {b c : Nat} (ok : ChipOk H b c) {l : List AObj} {x : Chp} {K : AV → AHeap → Prop} (h : K (.tup []) (hp (chipAt H b c x.power) l)) : (ACalls Try.prog) 80 [.ptr c 0 0] (hp (chipAt H b c x) l) K := chip_lift (fun _ _ o k => power_a o k) ok h
theorem fuse_l {H : AHeap} {b c : Nat} (ok : ChipOk H b c) {l : List AObj} {x : Chp} {n : Int} {torn : List UInt8} {K : AV → AHeap → Prop} (h : K (.tup []) (hp (chipAt H b c (x.set n torn)) l)) : (ACalls Try.prog) 79 [.ptr c 0 0, .int .i64 n, .str (B torn)] (hp (chipAt H b c x) l) K := chip_lift (fun _ _ o k => fuse_a o k) ok h
theorem erase_l {H : AHeap} {b c : Nat} (ok : ChipOk H b c) {l : List AObj} {x : Chp} (hl : x.l.length = 24576) {s : Int} {K : AV → AHeap → Prop} (h : K (.int .i64 (x.erase s).2) (hp (chipAt H b c (x.erase s).1) l)) : (ACalls Try.prog) 28 [.ptr c 0 0, .int .i64 s] (hp (chipAt H b c x) l) K := chip_lift (fun _ _ o k => erase_a o hl k) ok h
theorem write_l {H : AHeap} {b c : Nat} (ok : ChipOk H b c) {l : List AObj} {x : Chp} (hl : x.l.length = 24576) {at_ : Int} {s : List UInt8} {K : AV → AHeap → Prop} (h : K (.int .i64 (x.write at_ s).2) (hp (chipAt H b c (x.write at_ s).1) l)) : (ACalls Try.prog) 27 [.ptr c 0 0, .int .i64 at_, .str (B s)] (hp (chipAt H b c x) l) K := chip_lift (fun _ _ o k => write_a o hl k) ok h
theorem read_l {H : AHeap} {b c : Nat} (ok : ChipOk H b c) {l : List AObj} {x : Chp} (hl : x.l.length = 24576) {at_ n : Int} {K : AV → AHeap → Prop} (h : K (x.read at_ n) (hp (chipAt H b c x) l)) : (ACalls Try.prog) 29 [.ptr c 0 0, .int .i64 at_, .int .i64 n] (hp (chipAt H b c x) l) K := chip_lift (fun _ _ o k => read_a o hl k) ok h
theorem bytes_l {H : AHeap} {b c : Nat} (ok : ChipOk H b c) {l : List AObj} {x : Chp} (hl : x.l.length = 24576) {K : AV → AHeap → Prop} (h : K (.str (B x.l)) (hp (chipAt H b c x) l)) : (ACalls Try.prog) 36 [.ptr c 0 0] (hp (chipAt H b c x) l) K := chip_lift (fun _ _ o k => bytes_a o hl k) ok h
theorem ops_l {H : AHeap} {b c : Nat} (ok : ChipOk H b c) {l : List AObj} {x : Chp} {K : AV → AHeap → Prop} (h : K (.int .i64 x.ops) (hp (chipAt H b c x) l)) : (ACalls Try.prog) 35 [.ptr c 0 0] (hp (chipAt H b c x) l) K := chip_lift (fun _ _ o k => ops_a o k) ok h
theorem chip_ok2 (H : AHeap) (o1 o2 : AObj) (l : List AObj) : ChipOk (hp H (o1 :: o2 :: l)) (H.next + 0) (H.next + 1) := ⟨by omega, by rw [hp_next]; simp, by rw [hp_next]; simp⟩
theorem chip_hp2 (H : AHeap) (o1 o2 : AObj) (l : List AObj) (x : Chp) : chipAt (hp H (o1 :: o2 :: l)) (H.next + 0) (H.next + 1) x = hp H (.row 5 0 (x.l.map byteV) :: .row 57 0 (x.row (H.next + 0)) :: l) := by
  apply AHeap.ext'
  · rfl
  · intro k
    by_cases h1 : k = H.next + 0
    · rw [h1, chip_b (chip_ok2 H o1 o2 l), hp_get]; rfl
    · by_cases h2 : k = H.next + 1
      · rw [h2, chip_c (chip_ok2 H o1 o2 l), hp_get]; rfl
      · rw [chip_o x h1 h2]
        simp only [hp]
        split
        · rfl
        · obtain ⟨j, hj⟩ : ∃ j, k - H.next = j + 2 := ⟨k - H.next - 2, by omega⟩
          rw [hj]
          rfl
def aw1 : Chp × Int := (chp0 []).prog 5 [15]
def aw2 : Chp × Int := aw1.1.prog 5 [243]
def aw3 : Chp := aw2.1.set 0 [1, 0]
def aw4 : Chp × Int := aw3.erase 0
def aw5 : Chp := aw4.1.power
theorem aw1_is : aw1.2 = 0 := by kernel_rfl
theorem aw2_is : aw2.2 = 0 := by kernel_rfl
theorem aw2_r : aw2.1.read 4 3 = retR [255, 3, 255] 0 := by kernel_rfl
theorem aw4_is : aw4.2 = 4 := by kernel_rfl
theorem aw4_on : aw4.1.on = false := by kernel_rfl
theorem aw5_r : aw5.read 4 2 = retR [255, 3] 0 := by kernel_rfl
theorem aw5_ops : aw5.ops = 3 := by kernel_rfl
end Go.Proofs.Ytblflecalomgfaa.AL
