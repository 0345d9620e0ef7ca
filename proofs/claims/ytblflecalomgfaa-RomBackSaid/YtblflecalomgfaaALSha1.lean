/- The parts of sha told: turns. -/
import Derived.Test.YtblflecalomgfaaALDSha
import Derived.Test.YtblflecalomgfaaALX
import Derived.Test.YtblflecalomgfaaALK
import Derived.Laws.Bits64
set_option linter.unusedSimpArgs false
set_option linter.unusedVariables false
set_option maxRecDepth 100000
namespace Go.Proofs.Ytblflecalomgfaa.AL
open Go Go.Proofs
attribute [local go_sem] go_seq go_skip go_region go_regionN go_cond go_block go_exit go_ret nxt_nil nxt_code nxt_blk nxt_cut leave_nil leave_code leave_cut leave_blk rtn_nil rtn_code rtn_blk rtn_cut cnd_t cnd_f rgn_nil rgY_some rgY_none rgH_some rgP_some retTo_is rgV_func grd_und grd_tt grd_ff grd_tf grd_ft rgn_q rgn_alloc rgn_box rgn_store rgn_lit rgn_litw litCells_nil litCells_cons rgn_app rgn_copy rgn_mk rgn_s2b rgn_call rgn_callv rgn_stop rgn_slice3 aslice3 rgn_put rgn_mkmap rgn_lookup rgn_mapup alookup_nilm alookup_map amapup_map afound_ok afound_no rgn_c rgn_cv qclV_func aloadr rgn_guard post_ret post_normal retY_some ares aresL ares1 AX.ev aput List.getD_cons_zero List.getD_cons_succ List.set_cons_zero List.set_cons_succ List.map_cons List.map_nil aq abin aint astr abeq aconv asame aextract alenS alenL_nils alenL_emp alenL_imm alenL_wr aun apart aload afieldAddr afield aidxSl_wr aidxSl_imm aidxPt aidxStr aidxArr abound asliceStr asliceSl asliceArr abest anonil afill astore acells_nils acells_emp acells_imm acells_wr acells_str acopy litAll amk as2b anil nilOf aseq aeqs aeqv fits fit1 hp_next hp_push hp_get hp_set List.length_cons List.length_nil List.getElem?_cons_zero List.getElem?_cons_succ List.cons_append List.nil_append List.append_nil List.take_succ_cons List.take_zero List.drop_succ_cons List.drop_zero List.all_cons List.all_nil Option.map_some Option.some.injEq Bool.and_true Bool.true_and Bool.false_eq_true if_true if_false ite_true ite_false Bool.and_self true_and and_true and_self Nat.zero_add Nat.le_refl Int.toNat_natCast beq_self_eq_true eq_self tops_zero tops_succ Int.natCast_nonneg List.take_nil List.drop_nil Option.map_none flat_bool one_bool cells_bool flat_int one_int cells_int flat_str one_str cells_str flat_nilp one_nilp cells_nilp flat_ptr one_ptr cells_ptr flat_nils one_nils cells_nils flat_imm one_imm cells_imm flat_wr one_wr cells_wr flat_func one_func cells_func flat_nilf one_nilf cells_nilf flat_map one_map cells_map flat_nilm one_nilm cells_nilm flat_iface one_iface cells_iface flat_nili one_nili cells_nili flat_rd one_rd cells_rd flat_emp one_emp cells_emp flat_byteV one_byteV cells_byteV flat_agg cells_agg one_agg B_size B_list B_ext B_toList B_app List.take_length Int.le_refl
theorem and31 (x : Nat) (hx : x < 18446744073709551616) : bits .and .u64 (x : Int) 31 = ((x % 32 : Nat) : Int) := by
  have h : bits .and .u64 (x : Int) 31 = IntKind.u64.wrap ((BitVec.ofInt 64 (x : Int) &&& BitVec.ofInt 64 31).toNat : Int) := rfl
  have h31 : BitVec.ofInt 64 31 = BitVec.ofNat 64 31 := rfl
  rw [h, h31, BitVec.ofInt_natCast, BitVec.toNat_and, BitVec.toNat_ofNat, BitVec.toNat_ofNat, Nat.mod_eq_of_lt hx, show 31 % 2 ^ 64 = 2 ^ 5 - 1 by decide, Nat.and_two_pow_sub_one_eq_mod]
  rw [IntKind.wrap_u64]
  have : x % 2 ^ 5 < 32 := Nat.mod_lt _ (by decide)
  omega
theorem wrap_neg (a : Nat) (h1 : 1 ≤ a) (h2 : a ≤ 31) : IntKind.wrap .u64 (-(a : Int)) = ((18446744073709551616 - a : Nat) : Int) := by
  rw [IntKind.wrap_u64]
  omega
theorem or_bv (a b : BitVec 32) : bits .or .u32 (a.toNat : Int) (b.toNat : Int) = ((a ||| b).toNat : Int) := by
  have h : bits .or .u32 (a.toNat : Int) (b.toNat : Int) = IntKind.u32.wrap ((BitVec.ofInt 32 (a.toNat : Int) ||| BitVec.ofInt 32 (b.toNat : Int)).toNat : Int) := rfl
  rw [h, BitVec.ofInt_natCast, BitVec.ofInt_natCast, BitVec.ofNat_toNat, BitVec.ofNat_toNat, BitVec.setWidth_eq, BitVec.setWidth_eq, IntKind.wrap_u32]
  have := (a ||| b).isLt
  omega
/-- Turned to the right by a. -/
def ror (v : BitVec 32) (a : Nat) : BitVec 32 := (v >>> a) ||| (v <<< (32 - a))
theorem ror_num (v : BitVec 32) (a : Nat) (h1 : 1 ≤ a) (h2 : a ≤ 31) : bits .or .u32 (IntKind.wrap .u32 ((v.toNat : Int) * 2 ^ (32 - a))) ((v.toNat : Int) / 2 ^ a) = ((ror v a).toNat : Int) := by
  have e1 : IntKind.wrap .u32 ((v.toNat : Int) * 2 ^ (32 - a)) = (((v <<< (32 - a)).toNat : Nat) : Int) := by
    rw [IntKind.wrap_u32, BitVec.toNat_shiftLeft, Nat.shiftLeft_eq, Int.natCast_emod, Int.natCast_mul, Int.natCast_pow]
    rfl
  have e2 : (v.toNat : Int) / 2 ^ a = (((v >>> a).toNat : Nat) : Int) := by
    rw [BitVec.toNat_ushiftRight, Nat.shiftRight_eq_div_pow, Int.natCast_ediv, Int.natCast_pow]
    rfl
  rw [e1, e2, or_bv, ror, BitVec.or_comm]
theorem rot_a {v : BitVec 32} {a : Nat} (h1 : 1 ≤ a) (h2 : a ≤ 31) {H : AHeap} {K : AV → AHeap → Prop} (h : K (.int .u32 ((ror v a).toNat : Int)) H) : (ACalls Try.prog) 197 [.int .u32 (v.toNat : Int), .int .i64 (-(a : Int))] H K := by
  refine acalls_go mo t197 (fun hs hu => ?_)
  have e1 := wrap_neg a h1 h2
  have e2 : bits .and .u64 ((18446744073709551616 - a : Nat) : Int) 31 = ((32 - a : Nat) : Int) := by
    rw [and31 _ (by omega)]
    omega
  have e3 : IntKind.wrap .u64 (32 - ((32 - a : Nat) : Int)) = (a : Int) := by rw [IntKind.wrap_u64]; omega
  simp (disch := omega) only [c197, e1, e2, e3, shl_u32, shr_u32, go_sem, Nat.reduceLeDiff, Nat.reduceAdd, Nat.reduceSub, Nat.reduceMul, Nat.reduceLT, Int.reduceLT, Int.reduceLE, Int.reduceAdd, Int.reduceSub, Int.reduceMul, Int.reduceToNat, Int.reduceNeg, Int.reduceEq, Nat.reducePow, Int.reducePow, Nat.reduceEqDiff, decide_true, decide_false, reduceIte, reduceCtorEq, Int.reduceBEq, Int.reduceBNe, bne_self_eq_false, Int.cast_ofNat_Int, Bool.not_true, Bool.not_false, IntKind.bits]
  rw [ror_num v a h1 h2]
  exact aret_plain hs (.int _ _) h
theorem rturn_a {v : BitVec 32} {a : Nat} (h1 : 1 ≤ a) (h2 : a ≤ 31) {H : AHeap} {K : AV → AHeap → Prop} (h : K (.int .u32 ((ror v a).toNat : Int)) H) : (ACalls Try.prog) 177 [.int .u32 (v.toNat : Int), .int .i64 (a : Int)] H K := by
  refine acalls_go mo t177 (fun hs hu => ?_)
  have e3 : IntKind.wrap .i64 (32 - (a : Int)) = ((32 - a : Nat) : Int) := by rw [wi64 (by omega) (by omega)]; omega
  simp (disch := omega) only [c177, e3, shl_u32, shr_u32, go_sem, Nat.reduceLeDiff, Nat.reduceAdd, Nat.reduceSub, Nat.reduceMul, Nat.reduceLT, Int.reduceLT, Int.reduceLE, Int.reduceAdd, Int.reduceSub, Int.reduceMul, Int.reduceToNat, Int.reduceNeg, Int.reduceEq, Nat.reducePow, Int.reducePow, Nat.reduceEqDiff, decide_true, decide_false, reduceIte, reduceCtorEq, Int.reduceBEq, Int.reduceBNe, bne_self_eq_false, Int.cast_ofNat_Int, Bool.not_true, Bool.not_false, IntKind.bits]
  have := ror_num v a h1 h2
  have hc : ∀ x y : Int, bits .or .u32 x y = bits .or .u32 y x := fun x y => by
    show IntKind.u32.wrap _ = IntKind.u32.wrap _
    congr 2
    exact congrArg BitVec.toNat (BitVec.or_comm _ _)
  rw [hc, this]
  exact aret_plain hs (.int _ _) h
theorem xor_bv32 (a b : BitVec 32) : bits .xor .u32 (a.toNat : Int) (b.toNat : Int) = ((a ^^^ b).toNat : Int) := by
  have h : bits .xor .u32 (a.toNat : Int) (b.toNat : Int) = IntKind.u32.wrap ((BitVec.ofInt 32 (a.toNat : Int) ^^^ BitVec.ofInt 32 (b.toNat : Int)).toNat : Int) := rfl
  rw [h, BitVec.ofInt_natCast, BitVec.ofInt_natCast, BitVec.ofNat_toNat, BitVec.ofNat_toNat, BitVec.setWidth_eq, BitVec.setWidth_eq, IntKind.wrap_u32]
  have := (a ^^^ b).isLt
  omega
def ror3 (v : BitVec 32) (a b c : Nat) : BitVec 32 := ror v a ^^^ ror v b ^^^ ror v c
theorem turned_a {v : BitVec 32} {a b c : Nat} (a1 : 1 ≤ a) (a2 : a ≤ 31) (b1 : 1 ≤ b) (b2 : b ≤ 31) (c1 : 1 ≤ c) (c2 : c ≤ 31) {H : AHeap} {K : AV → AHeap → Prop} (h : K (.int .u32 ((ror3 v a b c).toNat : Int)) H) : (ACalls Try.prog) 195 [.int .u32 (v.toNat : Int), .int .i64 (a : Int), .int .i64 (b : Int), .int .i64 (c : Int)] H K := by
  refine acalls_go mo t195 (fun hs hu => ?_)
  have w : ∀ x : Nat, x ≤ 31 → IntKind.wrap .i64 (0 - (x : Int)) = -(x : Int) := fun x hx => by rw [wi64 (by omega) (by omega)]; omega
  simp only [c195, w a a2, w b b2, w c c2, go_sem, Nat.reduceLeDiff, Nat.reduceAdd, Nat.reduceSub, Nat.reduceMul, Nat.reduceLT, Int.reduceLT, Int.reduceLE, Int.reduceAdd, Int.reduceSub, Int.reduceMul, Int.reduceToNat, Int.reduceNeg, Int.reduceEq, Nat.reducePow, Int.reducePow, Nat.reduceEqDiff, decide_true, decide_false, reduceIte, reduceCtorEq, Int.reduceBEq, Int.reduceBNe, bne_self_eq_false, Int.cast_ofNat_Int, Bool.not_true, Bool.not_false, IntKind.bits]
  first | refine rot_a a1 a2 ?_ | refine ⟨_, rot_a a1 a2 ⟨rfl, rfl⟩, ?_⟩
  simp only [w a a2, w b b2, w c c2, go_sem, Nat.reduceLeDiff, Nat.reduceAdd, Nat.reduceSub, Nat.reduceMul, Nat.reduceLT, Int.reduceLT, Int.reduceLE, Int.reduceAdd, Int.reduceSub, Int.reduceMul, Int.reduceToNat, Int.reduceNeg, Int.reduceEq, Nat.reducePow, Int.reducePow, Nat.reduceEqDiff, decide_true, decide_false, reduceIte, reduceCtorEq, Int.reduceBEq, Int.reduceBNe, bne_self_eq_false, Int.cast_ofNat_Int, Bool.not_true, Bool.not_false, IntKind.bits]
  first | refine rot_a b1 b2 ?_ | refine ⟨_, rot_a b1 b2 ⟨rfl, rfl⟩, ?_⟩
  simp only [w a a2, w b b2, w c c2, xor_bv32, go_sem, Nat.reduceLeDiff, Nat.reduceAdd, Nat.reduceSub, Nat.reduceMul, Nat.reduceLT, Int.reduceLT, Int.reduceLE, Int.reduceAdd, Int.reduceSub, Int.reduceMul, Int.reduceToNat, Int.reduceNeg, Int.reduceEq, Nat.reducePow, Int.reducePow, Nat.reduceEqDiff, decide_true, decide_false, reduceIte, reduceCtorEq, Int.reduceBEq, Int.reduceBNe, bne_self_eq_false, Int.cast_ofNat_Int, Bool.not_true, Bool.not_false, IntKind.bits]
  first | refine rot_a c1 c2 ?_ | refine ⟨_, rot_a c1 c2 ⟨rfl, rfl⟩, ?_⟩
  simp only [w a a2, w b b2, w c c2, xor_bv32, go_sem, Nat.reduceLeDiff, Nat.reduceAdd, Nat.reduceSub, Nat.reduceMul, Nat.reduceLT, Int.reduceLT, Int.reduceLE, Int.reduceAdd, Int.reduceSub, Int.reduceMul, Int.reduceToNat, Int.reduceNeg, Int.reduceEq, Nat.reducePow, Int.reducePow, Nat.reduceEqDiff, decide_true, decide_false, reduceIte, reduceCtorEq, Int.reduceBEq, Int.reduceBNe, bne_self_eq_false, Int.cast_ofNat_Int, Bool.not_true, Bool.not_false, IntKind.bits]
  exact aret_plain hs (.int _ _) h
end Go.Proofs.Ytblflecalomgfaa.AL
