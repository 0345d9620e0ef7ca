/- A block of the reference's sum told. -/
import Derived.Test.YtblflecalomgfaaALSha3
set_option linter.unusedSimpArgs false
set_option linter.unusedVariables false
set_option maxRecDepth 100000
namespace Go.Proofs.Ytblflecalomgfaa.AL
open Go Go.Proofs
attribute [local go_sem] go_seq go_skip go_region go_regionN go_cond go_block go_exit go_ret nxt_nil nxt_code nxt_blk nxt_cut leave_nil leave_code leave_cut leave_blk rtn_nil rtn_code rtn_blk rtn_cut cnd_t cnd_f rgn_nil rgY_some rgY_none rgH_some rgP_some retTo_is rgV_func grd_und grd_tt grd_ff grd_tf grd_ft rgn_q rgn_alloc rgn_box rgn_store rgn_lit rgn_litw litCells_nil litCells_cons rgn_app rgn_copy rgn_mk rgn_s2b rgn_call rgn_callv rgn_stop rgn_slice3 aslice3 rgn_put rgn_mkmap rgn_lookup rgn_mapup alookup_nilm alookup_map amapup_map afound_ok afound_no rgn_c rgn_cv qclV_func aloadr rgn_guard post_ret post_normal retY_some ares aresL ares1 AX.ev aput List.getD_cons_zero List.getD_cons_succ List.set_cons_zero List.set_cons_succ List.map_cons List.map_nil aq abin aint astr abeq aconv asame aextract alenS alenL_nils alenL_emp alenL_imm alenL_wr aun apart aload afieldAddr afield aidxSl_wr aidxSl_imm aidxPt aidxStr aidxArr abound asliceStr asliceSl asliceArr abest anonil afill astore acells_nils acells_emp acells_imm acells_wr acells_str acopy litAll amk as2b anil nilOf aseq aeqs aeqv fits fit1 hp_next hp_push hp_get hp_set List.length_cons List.length_nil List.getElem?_cons_zero List.getElem?_cons_succ List.cons_append List.nil_append List.append_nil List.take_succ_cons List.take_zero List.drop_succ_cons List.drop_zero List.all_cons List.all_nil Option.map_some Option.some.injEq Bool.and_true Bool.true_and Bool.false_eq_true if_true if_false ite_true ite_false Bool.and_self true_and and_true and_self Nat.zero_add Nat.le_refl Int.toNat_natCast beq_self_eq_true eq_self tops_zero tops_succ Int.natCast_nonneg List.take_nil List.drop_nil Option.map_none flat_bool one_bool cells_bool flat_int one_int cells_int flat_str one_str cells_str flat_nilp one_nilp cells_nilp flat_ptr one_ptr cells_ptr flat_nils one_nils cells_nils flat_imm one_imm cells_imm flat_wr one_wr cells_wr flat_func one_func cells_func flat_nilf one_nilf cells_nilf flat_map one_map cells_map flat_nilm one_nilm cells_nilm flat_iface one_iface cells_iface flat_nili one_nili cells_nili flat_rd one_rd cells_rd flat_emp one_emp cells_emp flat_byteV one_byteV cells_byteV flat_agg cells_agg one_agg B_size B_list B_ext B_toList B_app List.take_length Int.le_refl
/-- Eight words of a state. -/
structure S8 where
  a : BitVec 32
  b : BitVec 32
  c : BitVec 32
  d : BitVec 32
  e : BitVec 32
  f : BitVec 32
  g : BitVec 32
  h : BitVec 32
def S8.l (x : S8) : List AV := [u32V x.a, u32V x.b, u32V x.c, u32V x.d, u32V x.e, u32V x.f, u32V x.g, u32V x.h]
def t1 (x : S8) (k w : BitVec 32) : BitVec 32 := x.h + ror3 x.e 6 11 25 + ((x.e &&& x.f) ^^^ (~~~x.e &&& x.g)) + k + w
def t2 (x : S8) : BitVec 32 := ror3 x.a 2 13 22 + ((x.a &&& x.b) ^^^ (x.a &&& x.c) ^^^ (x.b &&& x.c))
def round8 (x : S8) (k w : BitVec 32) : S8 := ⟨t1 x k w + t2 x, x.a, x.b, x.c, x.d + t1 x k w, x.e, x.f, x.g⟩
def rounds8 (ks ws : List (BitVec 32)) (x : S8) : Nat → S8
  | 0 => x
  | n + 1 => round8 (rounds8 ks ws x n) (ks.getD n 0) (ws.getD n 0)
def add8 (x y : S8) : S8 := ⟨x.a + y.a, x.b + y.b, x.c + y.c, x.d + y.d, x.e + y.e, x.f + y.f, x.g + y.g, x.h + y.h⟩
def block8 (ks : List (BitVec 32)) (x : S8) (l : List UInt8) : S8 := add8 x (rounds8 ks (wds l 64) x 64)
theorem and_bv32 (a b : BitVec 32) : bits .and .u32 (a.toNat : Int) (b.toNat : Int) = ((a &&& b).toNat : Int) := by
  have h : bits .and .u32 (a.toNat : Int) (b.toNat : Int) = IntKind.u32.wrap ((BitVec.ofInt 32 (a.toNat : Int) &&& BitVec.ofInt 32 (b.toNat : Int)).toNat : Int) := rfl
  rw [h, BitVec.ofInt_natCast, BitVec.ofInt_natCast, BitVec.ofNat_toNat, BitVec.ofNat_toNat, BitVec.setWidth_eq, BitVec.setWidth_eq, IntKind.wrap_u32]
  have := (a &&& b).isLt
  omega
theorem not_bv32 (a : BitVec 32) : bits .xor .u32 4294967295 (a.toNat : Int) = ((~~~a).toNat : Int) := by
  have := xor_bv32 (BitVec.allOnes 32) a
  rw [show ((BitVec.allOnes 32).toNat : Int) = 4294967295 by decide] at this
  rw [this, BitVec.allOnes_xor]
theorem add_bv32 (a b : BitVec 32) : IntKind.wrap .u32 ((a.toNat : Int) + (b.toNat : Int)) = ((a + b).toNat : Int) := by
  rw [IntKind.wrap_u32, BitVec.toNat_add]
  omega
theorem aun_not (n : Int) : aun .xor (.int .u32 n) = some (.int .u32 (bits .xor .u32 4294967295 n)) := rfl
theorem rblock_a {x : S8} {l : List UInt8} {ks : List (BitVec 32)} (hl : l.length = 64) (hk : ks.length = 64) {H : AHeap} {K : AV → AHeap → Prop} (h : K (.agg (block8 ks x l).l) H) : (ACalls Try.prog) 155 [.agg x.l, .str (B l), .agg (ks.map u32V)] H K := by
  refine acalls_go mo t155 (fun hs hu => ?_)
  have words64 : ∀ ws : List (BitVec 32), ws.length = 64 → (ws.map u32V).length = 64 ∧ (ws.map u32V).all AV.one = true ∧ (∀ i, i < 64 → (ws.map u32V)[i]? = some (.int .u32 ((ws.getD i 0).toNat : Int))) := fun ws hw => by
    refine ⟨by simp [hw], by simp [u32V, one_int], fun i hi => ?_⟩
    rw [List.getElem?_map, List.getElem?_eq_getElem (by omega), List.getD_eq_getElem?_getD, List.getElem?_eq_getElem (by omega)]
    rfl
  obtain ⟨kl, k1, kg⟩ := words64 ks hk
  obtain ⟨wl, w1, wg⟩ := words64 (wds l 64) (wds_len l 64)
  have hr : ∀ (H : AHeap) (K : AV → AHeap → Prop), K (.agg ((wds l 64).map u32V)) H → (ACalls Try.prog) 176 [.str (B l)] H K := fun H K hh => rwords_a hl hh
  unfold block8 at h
  generalize wds l 64 = ws at hr wl w1 wg h
  generalize ks.map u32V = KS at kl k1 kg hr ⊢
  generalize ws.map u32V = WS at wl w1 wg hr
  have zl : (List.replicate 64 (AV.int .u32 0)).length = 64 := List.length_replicate
  have zd : (List.replicate 64 (AV.int .u32 0)).drop 64 = [] := List.drop_of_length_le (by rw [zl]; exact Nat.le_refl _)
  generalize hZ : List.replicate 64 (AV.int .u32 0) = Z at zl zd
  simp only [c155, hZ, S8.l, go_sem, Nat.reduceLeDiff, Nat.reduceAdd, Nat.reduceSub, Nat.reduceMul, Nat.reduceLT, Int.reduceLT, Int.reduceLE, Int.reduceAdd, Int.reduceSub, Int.reduceMul, Int.reduceToNat, Int.reduceNeg, Int.reduceEq, Nat.reducePow, Int.reducePow, Nat.reduceEqDiff, decide_true, decide_false, reduceIte, reduceCtorEq, Int.reduceBEq, Int.reduceBNe, bne_self_eq_false, Int.cast_ofNat_Int, Bool.not_true, Bool.not_false, IntKind.bits]
  refine hr _ _ ?_
  simp only [hZ, wl, w1, zl, zd, u32V, go_sem, Nat.reduceLeDiff, Nat.reduceAdd, Nat.reduceSub, Nat.reduceMul, Nat.reduceLT, Int.reduceLT, Int.reduceLE, Int.reduceAdd, Int.reduceSub, Int.reduceMul, Int.reduceToNat, Int.reduceNeg, Int.reduceEq, Nat.reducePow, Int.reducePow, Nat.reduceEqDiff, decide_true, decide_false, reduceIte, reduceCtorEq, Int.reduceBEq, Int.reduceBNe, bne_self_eq_false, Int.cast_ofNat_Int, Bool.not_true, Bool.not_false, IntKind.bits]
  refine go_loop mono (σ := Nat) (fun i => .agg [.int .u32 ((x.a).toNat : Int), .int .u32 ((x.b).toNat : Int), .int .u32 ((x.c).toNat : Int), .int .u32 ((x.d).toNat : Int), .int .u32 ((x.e).toNat : Int), .int .u32 ((x.f).toNat : Int), .int .u32 ((x.g).toNat : Int), .int .u32 ((x.h).toNat : Int)] :: .str (B l) :: .agg KS :: .ptr (H.next + 0) 0 0 :: .top :: .ptr (H.next + 1) 0 0 :: .ptr (H.next + 2) 0 0 :: .ptr (H.next + 3) 0 0 :: .ptr (H.next + 4) 0 0 :: .int .i64 (i : Int) :: tops 102)
    (fun i => hp H [.row 175 0 [.int .u32 ((x.a).toNat : Int), .int .u32 ((x.b).toNat : Int), .int .u32 ((x.c).toNat : Int), .int .u32 ((x.d).toNat : Int), .int .u32 ((x.e).toNat : Int), .int .u32 ((x.f).toNat : Int), .int .u32 ((x.g).toNat : Int), .int .u32 ((x.h).toNat : Int)], .row 183 0 KS, .row 175 0 [.int .u32 0, .int .u32 0, .int .u32 0, .int .u32 0, .int .u32 0, .int .u32 0, .int .u32 0, .int .u32 0], .row 183 0 WS, .row 175 0 [.int .u32 (((rounds8 ks ws x i).a).toNat : Int), .int .u32 (((rounds8 ks ws x i).b).toNat : Int), .int .u32 (((rounds8 ks ws x i).c).toNat : Int), .int .u32 (((rounds8 ks ws x i).d).toNat : Int), .int .u32 (((rounds8 ks ws x i).e).toNat : Int), .int .u32 (((rounds8 ks ws x i).f).toNat : Int), .int .u32 (((rounds8 ks ws x i).g).toNat : Int), .int .u32 (((rounds8 ks ws x i).h).toNat : Int)]]) (fun i => i ≤ 64) (fun i => 64 - i) 0 ?_ rfl (Nat.zero_le _) (fun i hi J hJ => ?_)
  · simp only [tops_succ, tops_zero]
    repeat first | exact forget_nil | apply forget_keep | apply forget_top
  simp only [go_sem, Nat.reduceLeDiff, Nat.reduceAdd, Nat.reduceSub, Nat.reduceMul, Nat.reduceLT, Int.reduceLT, Int.reduceLE, Int.reduceAdd, Int.reduceSub, Int.reduceMul, Int.reduceToNat, Int.reduceNeg, Int.reduceEq, Nat.reducePow, Int.reducePow, Nat.reduceEqDiff, decide_true, decide_false, reduceIte, reduceCtorEq, Int.reduceBEq, Int.reduceBNe, bne_self_eq_false, Int.cast_ofNat_Int, Bool.not_true, Bool.not_false, IntKind.bits]
  refine cnd_split (fun h1 => ?_) (fun h1 => ?_)
  · have hi' : i < 64 := by simp at h1; omega
    have hc : ((i : Int) < 64) = True := by simp; omega
    have hsm : (if IntKind.signed .u32 = true then (-1 : Int) else IntKind.max .u32) = 4294967295 := by decide
    have kgi := kg i hi'
    have wgi := wg i hi'
    have hrd : rounds8 ks ws x (i + 1) = round8 (rounds8 ks ws x i) (ks.getD i 0) (ws.getD i 0) := rfl
    have hJ' := hJ (i + 1)
    rw [hrd] at hJ'
    generalize rounds8 ks ws x i = y at hJ' ⊢
    simp only [hc, go_sem, Nat.reduceLeDiff, Nat.reduceAdd, Nat.reduceSub, Nat.reduceMul, Nat.reduceLT, Int.reduceLT, Int.reduceLE, Int.reduceAdd, Int.reduceSub, Int.reduceMul, Int.reduceToNat, Int.reduceNeg, Int.reduceEq, Nat.reducePow, Int.reducePow, Nat.reduceEqDiff, decide_true, decide_false, reduceIte, reduceCtorEq, Int.reduceBEq, Int.reduceBNe, bne_self_eq_false, Int.cast_ofNat_Int, Bool.not_true, Bool.not_false, IntKind.bits]
    refine ⟨_, rturn_a (a := 6) (by decide) (by decide) ⟨rfl, rfl⟩, ?_⟩
    simp only [hc, kgi, wgi, xor_bv32, and_bv32, not_bv32, add_bv32, aun_not, hsm, Nat.mul_one, go_sem, Nat.reduceLeDiff, Nat.reduceAdd, Nat.reduceSub, Nat.reduceMul, Nat.reduceLT, Int.reduceLT, Int.reduceLE, Int.reduceAdd, Int.reduceSub, Int.reduceMul, Int.reduceToNat, Int.reduceNeg, Int.reduceEq, Nat.reducePow, Int.reducePow, Nat.reduceEqDiff, decide_true, decide_false, reduceIte, reduceCtorEq, Int.reduceBEq, Int.reduceBNe, bne_self_eq_false, Int.cast_ofNat_Int, Bool.not_true, Bool.not_false, IntKind.bits]
    refine ⟨_, rturn_a (a := 11) (by decide) (by decide) ⟨rfl, rfl⟩, ?_⟩
    simp only [hc, kgi, wgi, xor_bv32, and_bv32, not_bv32, add_bv32, aun_not, hsm, Nat.mul_one, go_sem, Nat.reduceLeDiff, Nat.reduceAdd, Nat.reduceSub, Nat.reduceMul, Nat.reduceLT, Int.reduceLT, Int.reduceLE, Int.reduceAdd, Int.reduceSub, Int.reduceMul, Int.reduceToNat, Int.reduceNeg, Int.reduceEq, Nat.reducePow, Int.reducePow, Nat.reduceEqDiff, decide_true, decide_false, reduceIte, reduceCtorEq, Int.reduceBEq, Int.reduceBNe, bne_self_eq_false, Int.cast_ofNat_Int, Bool.not_true, Bool.not_false, IntKind.bits]
    refine ⟨_, rturn_a (a := 25) (by decide) (by decide) ⟨rfl, rfl⟩, ?_⟩
    simp only [hc, kgi, wgi, xor_bv32, and_bv32, not_bv32, add_bv32, aun_not, hsm, Nat.mul_one, go_sem, Nat.reduceLeDiff, Nat.reduceAdd, Nat.reduceSub, Nat.reduceMul, Nat.reduceLT, Int.reduceLT, Int.reduceLE, Int.reduceAdd, Int.reduceSub, Int.reduceMul, Int.reduceToNat, Int.reduceNeg, Int.reduceEq, Nat.reducePow, Int.reducePow, Nat.reduceEqDiff, decide_true, decide_false, reduceIte, reduceCtorEq, Int.reduceBEq, Int.reduceBNe, bne_self_eq_false, Int.cast_ofNat_Int, Bool.not_true, Bool.not_false, IntKind.bits]
    refine ⟨_, rturn_a (a := 2) (by decide) (by decide) ⟨rfl, rfl⟩, ?_⟩
    simp only [hc, kgi, wgi, xor_bv32, and_bv32, not_bv32, add_bv32, aun_not, hsm, Nat.mul_one, go_sem, Nat.reduceLeDiff, Nat.reduceAdd, Nat.reduceSub, Nat.reduceMul, Nat.reduceLT, Int.reduceLT, Int.reduceLE, Int.reduceAdd, Int.reduceSub, Int.reduceMul, Int.reduceToNat, Int.reduceNeg, Int.reduceEq, Nat.reducePow, Int.reducePow, Nat.reduceEqDiff, decide_true, decide_false, reduceIte, reduceCtorEq, Int.reduceBEq, Int.reduceBNe, bne_self_eq_false, Int.cast_ofNat_Int, Bool.not_true, Bool.not_false, IntKind.bits]
    refine ⟨_, rturn_a (a := 13) (by decide) (by decide) ⟨rfl, rfl⟩, ?_⟩
    simp only [hc, kgi, wgi, xor_bv32, and_bv32, not_bv32, add_bv32, aun_not, hsm, Nat.mul_one, go_sem, Nat.reduceLeDiff, Nat.reduceAdd, Nat.reduceSub, Nat.reduceMul, Nat.reduceLT, Int.reduceLT, Int.reduceLE, Int.reduceAdd, Int.reduceSub, Int.reduceMul, Int.reduceToNat, Int.reduceNeg, Int.reduceEq, Nat.reducePow, Int.reducePow, Nat.reduceEqDiff, decide_true, decide_false, reduceIte, reduceCtorEq, Int.reduceBEq, Int.reduceBNe, bne_self_eq_false, Int.cast_ofNat_Int, Bool.not_true, Bool.not_false, IntKind.bits]
    refine ⟨_, rturn_a (a := 22) (by decide) (by decide) ⟨rfl, rfl⟩, ?_⟩
    simp only [hc, kgi, wgi, xor_bv32, and_bv32, not_bv32, add_bv32, aun_not, hsm, wnext hi' (by decide : 64 ≤ 9223372036854775807), Nat.mul_one, go_sem, Nat.reduceLeDiff, Nat.reduceAdd, Nat.reduceSub, Nat.reduceMul, Nat.reduceLT, Int.reduceLT, Int.reduceLE, Int.reduceAdd, Int.reduceSub, Int.reduceMul, Int.reduceToNat, Int.reduceNeg, Int.reduceEq, Nat.reducePow, Int.reducePow, Nat.reduceEqDiff, decide_true, decide_false, reduceIte, reduceCtorEq, Int.reduceBEq, Int.reduceBNe, bne_self_eq_false, Int.cast_ofNat_Int, Bool.not_true, Bool.not_false, IntKind.bits]
    refine hJ' _ (by omega) (by omega) ?_
    simp only [tops_succ, tops_zero]
    repeat first | exact forget_nil | apply forget_keep | apply forget_top
  · have hi' : i = 64 := by simp at h1; omega
    subst hi'
    generalize rounds8 ks ws x 64 = y at h ⊢
    simp only [go_sem, Nat.reduceLeDiff, Nat.reduceAdd, Nat.reduceSub, Nat.reduceMul, Nat.reduceLT, Int.reduceLT, Int.reduceLE, Int.reduceAdd, Int.reduceSub, Int.reduceMul, Int.reduceToNat, Int.reduceNeg, Int.reduceEq, Nat.reducePow, Int.reducePow, Nat.reduceEqDiff, decide_true, decide_false, reduceIte, reduceCtorEq, Int.reduceBEq, Int.reduceBNe, bne_self_eq_false, Int.cast_ofNat_Int, Bool.not_true, Bool.not_false, IntKind.bits]
    refine go_rounds mono 9 ?_
    have v1 : IntKind.wrap .i64 1 = 1 := by decide
    have v2 : IntKind.wrap .i64 2 = 2 := by decide
    have v3 : IntKind.wrap .i64 3 = 3 := by decide
    have v4 : IntKind.wrap .i64 4 = 4 := by decide
    have v5 : IntKind.wrap .i64 5 = 5 := by decide
    have v6 : IntKind.wrap .i64 6 = 6 := by decide
    have v7 : IntKind.wrap .i64 7 = 7 := by decide
    have v8 : IntKind.wrap .i64 8 = 8 := by decide
    simp only [rnds_succ, v1, v2, v3, v4, v5, v6, v7, v8, add_bv32, Nat.mul_one, go_sem, Nat.reduceLeDiff, Nat.reduceAdd, Nat.reduceSub, Nat.reduceMul, Nat.reduceLT, Int.reduceLT, Int.reduceLE, Int.reduceAdd, Int.reduceSub, Int.reduceMul, Int.reduceToNat, Int.reduceNeg, Int.reduceEq, Nat.reducePow, Int.reducePow, Nat.reduceEqDiff, decide_true, decide_false, reduceIte, reduceCtorEq, Int.reduceBEq, Int.reduceBNe, bne_self_eq_false, Int.cast_ofNat_Int, Bool.not_true, Bool.not_false, IntKind.bits]
    refine aret_plain hs (.agg _ (fun c hc => ?_)) ?_
    · simp only [List.mem_cons, List.not_mem_nil, or_false] at hc
      rcases hc with rfl | rfl | rfl | rfl | rfl | rfl | rfl | rfl <;> exact .int _ _
    · simp only [add8, S8.l, u32V] at h
      exact h
end Go.Proofs.Ytblflecalomgfaa.AL
