/- Package crc told. -/
import Derived.Test.YtblflecalomgfaaALK
import Derived.Test.YtblflecalomgfaaALDCrc
import Derived.Test.YtblflecalomgfaaGCrcMath
set_option linter.unusedSimpArgs false
set_option maxRecDepth 100000
namespace Go.Proofs.Ytblflecalomgfaa.AL
open Go Go.Proofs Go.Proofs.Ytblflecalomgfaa.G
attribute [local go_sem] go_seq go_skip go_region go_regionN go_cond go_block go_exit go_ret nxt_nil nxt_code nxt_blk nxt_cut leave_nil leave_code leave_cut leave_blk rtn_nil rtn_code rtn_blk rtn_cut cnd_t cnd_f rgn_nil rgY_some rgY_none rgH_some rgP_some retTo_is rgV_func grd_und grd_tt grd_ff grd_tf grd_ft rgn_q rgn_alloc rgn_box rgn_store rgn_lit rgn_litw litCells_nil litCells_cons rgn_app rgn_copy rgn_mk rgn_s2b rgn_call rgn_callv rgn_stop rgn_slice3 aslice3 rgn_put rgn_mkmap rgn_lookup rgn_mapup alookup_nilm alookup_map amapup_map afound_ok afound_no rgn_c rgn_cv qclV_func aloadr rgn_guard post_ret post_normal retY_some ares aresL ares1 AX.ev aput List.getD_cons_zero List.getD_cons_succ List.set_cons_zero List.set_cons_succ List.map_cons List.map_nil aq abin aint astr abeq aconv asame aextract alenS alenL_nils alenL_emp alenL_imm alenL_wr aun apart aload afieldAddr afield aidxSl_wr aidxSl_imm aidxPt aidxStr aidxArr abound asliceStr asliceSl asliceArr abest anonil afill astore acells_nils acells_emp acells_imm acells_wr acells_str acopy litAll amk as2b anil nilOf aseq aeqs aeqv fits fit1 hp_next hp_push hp_get hp_set List.length_cons List.length_nil List.getElem?_cons_zero List.getElem?_cons_succ List.cons_append List.nil_append List.append_nil List.take_succ_cons List.take_zero List.drop_succ_cons List.drop_zero List.all_cons List.all_nil Option.map_some Option.some.injEq Bool.and_true Bool.true_and Bool.false_eq_true if_true if_false ite_true ite_false Bool.and_self true_and and_true and_self Nat.zero_add Nat.le_refl Int.toNat_natCast beq_self_eq_true eq_self tops_zero tops_succ Int.natCast_nonneg List.take_nil List.drop_nil Option.map_none flat_bool one_bool cells_bool flat_int one_int cells_int flat_str one_str cells_str flat_nilp one_nilp cells_nilp flat_ptr one_ptr cells_ptr flat_nils one_nils cells_nils flat_imm one_imm cells_imm flat_wr one_wr cells_wr flat_func one_func cells_func flat_nilf one_nilf cells_nilf flat_map one_map cells_map flat_nilm one_nilm cells_nilm flat_iface one_iface cells_iface flat_nili one_nili cells_nili flat_rd one_rd cells_rd flat_emp one_emp cells_emp flat_byteV one_byteV cells_byteV flat_agg cells_agg one_agg B_size B_list B_ext B_toList B_app List.take_length Int.le_refl
theorem xor_bv (a b : BitVec 32) : bits .xor .u32 (a.toNat : Int) (b.toNat : Int) = ((a ^^^ b).toNat : Int) := by
  have h : bits .xor .u32 (a.toNat : Int) (b.toNat : Int) = IntKind.u32.wrap ((BitVec.ofInt 32 (a.toNat : Int) ^^^ BitVec.ofInt 32 (b.toNat : Int)).toNat : Int) := rfl
  rw [h, BitVec.ofInt_natCast, BitVec.ofInt_natCast, BitVec.ofNat_toNat, BitVec.ofNat_toNat, BitVec.setWidth_eq, BitVec.setWidth_eq, IntKind.wrap_u32]
  have := (a ^^^ b).isLt
  omega
theorem and_bv (a b : BitVec 32) : bits .and .u32 (a.toNat : Int) (b.toNat : Int) = ((a &&& b).toNat : Int) := by
  have h : bits .and .u32 (a.toNat : Int) (b.toNat : Int) = IntKind.u32.wrap ((BitVec.ofInt 32 (a.toNat : Int) &&& BitVec.ofInt 32 (b.toNat : Int)).toNat : Int) := rfl
  rw [h, BitVec.ofInt_natCast, BitVec.ofInt_natCast, BitVec.ofNat_toNat, BitVec.ofNat_toNat, BitVec.setWidth_eq, BitVec.setWidth_eq, IntKind.wrap_u32]
  have := (a &&& b).isLt
  omega
theorem lsb_bv (v : BitVec 32) : v.getLsbD 0 = decide (v.toNat % 2 = 1) := by
  simp [BitVec.getLsbD, Nat.testBit_zero]
theorem step_num (v : BitVec 32) : bits .xor .u32 ((v.toNat : Int) / 2) (bits .and .u32 3988292384 (-(bits .and .u32 (v.toNat : Int) 1) % 4294967296)) = ((cstep v).toNat : Int) := by
  have h1 : bits .and .u32 (v.toNat : Int) 1 = ((v.toNat % 2 : Nat) : Int) := by
    have := and_bv v 1#32
    rw [show ((1#32 : BitVec 32).toNat : Int) = 1 from rfl] at this
    rw [this, BitVec.toNat_and]
    show ((v.toNat &&& 1 : Nat) : Int) = _
    rw [Nat.and_one_is_mod]
  have h2 : ((v.toNat : Int) / (2 : Int)) = (((v >>> 1).toNat : Nat) : Int) := by
    rw [BitVec.toNat_ushiftRight, Nat.shiftRight_eq_div_pow]; omega
  rw [h1, h2]
  unfold cstep
  rw [lsb_bv]
  rcases Nat.mod_two_eq_zero_or_one v.toNat with h | h
  · rw [h]
    rw [show (-((0 : Nat) : Int) % 4294967296) = ((0#32 : BitVec 32).toNat : Int) from by decide, show (3988292384 : Int) = ((poly : BitVec 32).toNat : Int) from by decide, and_bv, xor_bv]
    simp
  · rw [h]
    rw [show (-((1 : Nat) : Int) % 4294967296) = ((0xffffffff#32 : BitVec 32).toNat : Int) from by decide, show (3988292384 : Int) = ((poly : BitVec 32).toNat : Int) from by decide, and_bv, xor_bv]
    simp
    rfl
theorem step_a (v : BitVec 32) {H : AHeap} {K : AV → AHeap → Prop} (h : K (.int .u32 ((cstep v).toNat : Int)) H) : (ACalls Try.prog) 186 [.int .u32 (v.toNat : Int)] H K := by
  refine acalls_go mo t186 (fun hs hu => ?_)
  simp (disch := decide) only [c186, shr_u32, go_sem, Nat.reduceLeDiff, Nat.reduceAdd, Nat.reduceSub, Nat.reduceMul, Nat.reduceLT, Int.reduceLT, Int.reduceLE, Int.reduceAdd, Int.reduceSub, Int.reduceMul, Int.reduceToNat, Int.reduceNeg, Int.reduceEq, Nat.reducePow, Int.reducePow, Nat.reduceEqDiff, decide_true, decide_false, reduceIte, reduceCtorEq, Int.reduceBEq, Int.reduceBNe, bne_self_eq_false, Int.cast_ofNat_Int, Bool.not_true, Bool.not_false, IntKind.bits]
  refine aret_plain hs (.int _ _) ?_
  have := step_num v
  rw [IntKind.wrap_u32, Int.zero_sub, this]
  exact h
theorem steps_a (v : BitVec 32) {H : AHeap} {K : AV → AHeap → Prop} (h : K (.int .u32 ((ceight v).toNat : Int)) H) : (ACalls Try.prog) 171 [.int .u32 (v.toNat : Int)] H K := by
  refine acalls_go mo t171 (fun hs hu => ?_)
  simp only [c171, go_sem, Nat.reduceLeDiff, Nat.reduceAdd, Nat.reduceSub, Nat.reduceMul, Nat.reduceLT, Int.reduceLT, Int.reduceLE, Int.reduceAdd, Int.reduceSub, Int.reduceMul, Int.reduceToNat, Int.reduceNeg, Int.reduceEq, Nat.reducePow, Int.reducePow, Nat.reduceEqDiff, decide_true, decide_false, reduceIte, reduceCtorEq, Int.reduceBEq, Int.reduceBNe, bne_self_eq_false, Int.cast_ofNat_Int, Bool.not_true, Bool.not_false, IntKind.bits]
  refine go_rounds mono 9 ?_
  iterate 8
    simp (disch := omega) only [rnds_succ, wi64, go_sem, Nat.reduceLeDiff, Nat.reduceAdd, Nat.reduceSub, Nat.reduceMul, Nat.reduceLT, Int.reduceLT, Int.reduceLE, Int.reduceAdd, Int.reduceSub, Int.reduceMul, Int.reduceToNat, Int.reduceNeg, Int.reduceEq, Nat.reducePow, Int.reducePow, Nat.reduceEqDiff, decide_true, decide_false, reduceIte, reduceCtorEq, Int.reduceBEq, Int.reduceBNe, bne_self_eq_false, Int.cast_ofNat_Int, Bool.not_true, Bool.not_false, IntKind.bits]
    refine step_a _ ?_
  simp (disch := omega) only [rnds_succ, wi64, go_sem, Nat.reduceLeDiff, Nat.reduceAdd, Nat.reduceSub, Nat.reduceMul, Nat.reduceLT, Int.reduceLT, Int.reduceLE, Int.reduceAdd, Int.reduceSub, Int.reduceMul, Int.reduceToNat, Int.reduceNeg, Int.reduceEq, Nat.reducePow, Int.reducePow, Nat.reduceEqDiff, decide_true, decide_false, reduceIte, reduceCtorEq, Int.reduceBEq, Int.reduceBNe, bne_self_eq_false, Int.cast_ofNat_Int, Bool.not_true, Bool.not_false, IntKind.bits]
  exact aret_plain hs (.int _ _) h
def xr (a b : BitVec 32) : BitVec 32 := a ^^^ b
theorem xr_bv (a b : BitVec 32) : bits .xor .u32 (a.toNat : Int) (b.toNat : Int) = ((xr a b).toNat : Int) := xor_bv a b
theorem byte_drop (l : List UInt8) (k : Nat) (h : k < l.length) : l.take (k + 1) = l.take k ++ [l[k]] := by
  rw [List.take_succ_eq_append_getElem h]
theorem crun_take (c : BitVec 32) (l : List UInt8) (k : Nat) (h : k < l.length) : crun c (l.take (k + 1)) = ceight (xr (crun c (l.take k)) (cbyte l[k])) := by
  rw [byte_drop l k h, crun_append]; rfl
theorem ofInt_num (a : Int) : a % 4294967296 = ((BitVec.ofInt 32 a).toNat : Int) := by
  rw [BitVec.toNat_ofInt]
  have : 0 ≤ a % ((2 ^ 32 : Nat) : Int) := Int.emod_nonneg _ (by decide)
  omega
theorem byte_num (b : UInt8) : ((b.toNat : Nat) : Int) % 4294967296 = ((cbyte b).toNat : Int) := by
  have := b.toNat_lt
  simp [cbyte]
  omega
def tabv (k : Nat) : Int := ((ceight (BitVec.ofNat 32 k)).toNat : Int)
def sh8 (x : BitVec 32) : BitVec 32 := x >>> 8
def idx (x : BitVec 32) (b : UInt8) : Nat := ((x ^^^ cbyte b) &&& 0xff#32).toNat
theorem idx_nat (x : BitVec 32) (b : UInt8) : idx x b = (x.toNat ^^^ b.toNat) % 256 := by
  have hb := b.toNat_lt
  have : (cbyte b).toNat = b.toNat := by simp [cbyte]
  unfold idx
  rw [BitVec.toNat_and, BitVec.toNat_xor, this]
  exact Nat.and_two_pow_sub_one_eq_mod (n := 8) _
theorem idx_lt (x : BitVec 32) (b : UInt8) : idx x b < 256 := by rw [idx_nat]; omega
theorem idx_num (x : BitVec 32) (b : UInt8) : bits .xor .u8 ((x.toNat : Int) % 256) (b.toNat : Int) = (idx x b : Int) := by
  have hb := b.toNat_lt
  have h : bits .xor .u8 (((x.toNat % 256 : Nat) : Int)) (b.toNat : Int) = IntKind.u8.wrap ((BitVec.ofInt 8 ((x.toNat % 256 : Nat) : Int) ^^^ BitVec.ofInt 8 (b.toNat : Int)).toNat : Int) := rfl
  rw [show ((x.toNat : Int) % 256) = ((x.toNat % 256 : Nat) : Int) from by omega, h, BitVec.ofInt_natCast, BitVec.ofInt_natCast, BitVec.toNat_xor, BitVec.toNat_ofNat, BitVec.toNat_ofNat, IntKind.wrap_u8, idx_nat]
  have e : (x.toNat ^^^ b.toNat) % 2 ^ 8 = (x.toNat % 2 ^ 8) ^^^ (b.toNat % 2 ^ 8) := Nat.xor_mod_two_pow
  have e2 : x.toNat % 256 % 2 ^ 8 = x.toNat % 2 ^ 8 := by omega
  rw [e2, ← e]
  omega
theorem sh8_num (x : BitVec 32) : (x.toNat : Int) / 256 = ((sh8 x).toNat : Int) := by
  unfold sh8
  rw [BitVec.toNat_ushiftRight, Nat.shiftRight_eq_div_pow]
  omega
theorem eight_tab (x : BitVec 32) (b : UInt8) : ceight (xr x (cbyte b)) = xr (sh8 x) (ceight (BitVec.ofNat 32 (idx x b))) := by
  unfold xr sh8 idx
  rw [ceight_split, BitVec.ushiftRight_xor_distrib, BitVec.ofNat_toNat, BitVec.setWidth_eq]
  have : cbyte b >>> 8 = 0#32 := by
    have hb := b.toNat_lt
    apply BitVec.eq_of_toNat_eq
    rw [BitVec.toNat_ushiftRight, Nat.shiftRight_eq_div_pow]
    simp [cbyte]
    omega
  rw [this]
  simp
def tabL : List AV := (List.range 256).map fun k => .int .u32 (tabv k)
theorem tab_get {j : Nat} (hj : j < 256) : tabL[j]? = some (.int .u32 (tabv j)) := by
  unfold tabL
  rw [List.getElem?_map, List.getElem?_range hj]
  rfl
theorem run_a {c : BitVec 32} {l : List UInt8} {H : AHeap} {K : AV → AHeap → Prop} {id gen : Nat} {e : TypeId} (hs0 : l.length ≤ 9223372036854775807) (hg : H.get id = some (.row e gen tabL)) (h : K (.int .u32 ((crun c l).toNat : Int)) H) :
    (ACalls Try.prog) 150 [.int .u32 (c.toNat : Int), .ptr id gen 0, .str (B l)] H K := by
  refine acalls_go mo t150 (fun hs hu => ?_)
  have hlt := H.lt hg
  simp only [c150, B_size, B_list, hs0, go_sem, Nat.reduceLeDiff, Nat.reduceAdd, Nat.reduceSub, Nat.reduceMul, Nat.reduceLT, Int.reduceLT, Int.reduceLE, Int.reduceAdd, Int.reduceSub, Int.reduceMul, Int.reduceToNat, Int.reduceNeg, Int.reduceEq, Nat.reducePow, Int.reducePow, Nat.reduceEqDiff, decide_true, decide_false, reduceIte, reduceCtorEq, Int.reduceBEq, Int.reduceBNe, bne_self_eq_false, Int.cast_ofNat_Int, Bool.not_true, Bool.not_false, IntKind.bits]
  refine go_loop mono (σ := Nat) (fun i => [.int .u32 ((crun c (l.take i)).toNat : Int), .ptr id gen 0, .str (B l), .top, .top, .top, .int .u32 0, .top, .top, .str (B l), .wr (H.next + 0) 0 0 l.length 1, .int .i64 (l.length : Int), .int .i64 (i : Int), .top, .top, .top, .top, .top, .top, .top, .top, .top, .top, .top, .top, .top, .top, .top, .top])
    (fun _ => hp H [.row 5 0 (l.map byteV)]) (fun i => i ≤ l.length) (fun i => l.length - i) 0 ?_ rfl (Nat.zero_le _) (fun i hi J hJ => ?_)
  · simp only [List.take_zero, crun_nil]
    repeat first | exact forget_nil | apply forget_keep | apply forget_top
  simp only [go_sem, Nat.reduceLeDiff, Nat.reduceAdd, Nat.reduceSub, Nat.reduceMul, Nat.reduceLT, Int.reduceLT, Int.reduceLE, Int.reduceAdd, Int.reduceSub, Int.reduceMul, Int.reduceToNat, Int.reduceNeg, Int.reduceEq, Nat.reducePow, Int.reducePow, Nat.reduceEqDiff, decide_true, decide_false, reduceIte, reduceCtorEq, Int.reduceBEq, Int.reduceBNe, bne_self_eq_false, Int.cast_ofNat_Int, Bool.not_true, Bool.not_false, IntKind.bits]
  refine cnd_split (fun h1 => ?_) (fun h1 => ?_)
  · have hi' : i < l.length := by simpa using h1
    have hc : ((i : Int) < (l.length : Int)) = True := by simp [hi']
    have hb : (idx (crun c (l.take i)) l[i] : Int) < 256 := by exact_mod_cast idx_lt _ _
    simp (disch := omega) only [hc, bytesV_get l i hi', shr_u32, IntKind.wrap_u8, idx_num, hp_get_old _ _ _ hlt, hg, tab_get (idx_lt _ _), tabv, sh8_num, xr_bv, hb, Nat.mul_one, wnext hi' hs0, go_sem, Nat.reduceLeDiff, Nat.reduceAdd, Nat.reduceSub, Nat.reduceMul, Nat.reduceLT, Int.reduceLT, Int.reduceLE, Int.reduceAdd, Int.reduceSub, Int.reduceMul, Int.reduceToNat, Int.reduceNeg, Int.reduceEq, Nat.reducePow, Int.reducePow, Nat.reduceEqDiff, decide_true, decide_false, reduceIte, reduceCtorEq, Int.reduceBEq, Int.reduceBNe, bne_self_eq_false, Int.cast_ofNat_Int, Bool.not_true, Bool.not_false, IntKind.bits]
    refine hJ (i + 1) _ (by omega) (by omega) ?_
    rw [crun_take _ _ _ hi', eight_tab]
    repeat first | exact forget_nil | apply forget_keep | apply forget_top
  · have hi' : i = l.length := by simp at h1; omega
    subst hi'
    simp only [go_sem, Nat.reduceLeDiff, Nat.reduceAdd, Nat.reduceSub, Nat.reduceMul, Nat.reduceLT, Int.reduceLT, Int.reduceLE, Int.reduceAdd, Int.reduceSub, Int.reduceMul, Int.reduceToNat, Int.reduceNeg, Int.reduceEq, Nat.reducePow, Int.reducePow, Nat.reduceEqDiff, decide_true, decide_false, reduceIte, reduceCtorEq, Int.reduceBEq, Int.reduceBNe, bne_self_eq_false, Int.cast_ofNat_Int, Bool.not_true, Bool.not_false, IntKind.bits]
    refine aret_plain hs (.int _ _) ?_
    try rw [List.take_of_length_le (by simp)]
    exact h
def tabTo (i : Nat) : List AV := (List.range 256).map fun k => .int .u32 (if k < i then tabv k else 0)
theorem tabTo_len (i : Nat) : (tabTo i).length = 256 := by simp [tabTo]
theorem tabTo_zero : List.replicate 256 (AV.int .u32 0) = tabTo 0 := by
  refine (List.eq_replicate_iff.2 ⟨tabTo_len 0, fun b hb => ?_⟩).symm
  obtain ⟨k, hk, rfl⟩ := List.mem_map.1 hb
  rw [if_neg (by omega)]
theorem tabTo_last : tabTo 256 = tabL := by
  apply List.ext_getElem
  · simp [tabTo, tabL]
  · intro i h1 h2
    simp only [tabTo, tabL, List.getElem_map, List.getElem_range]
    rw [if_pos (by simpa [tabTo] using h1)]
theorem tabTo_one (i : Nat) : (tabTo i).all AV.one = true := by simp [tabTo, AV.one]
theorem tabTo_put (i : Nat) (hi : i < 256) : (tabTo i).take i ++ [AV.int .u32 (tabv i)] ++ (tabTo i).drop (i + 1) = tabTo (i + 1) := by
  apply List.ext_getElem
  · simp [tabTo]; omega
  · intro j h1 h2
    have hj : j < 256 := by rw [tabTo_len] at h2; exact h2
    by_cases h3 : j < i
    · rw [List.getElem_append_left (by simp [tabTo]; omega), List.getElem_append_left (by simp [tabTo]; omega)]
      simp [tabTo, h3, show j < i + 1 by omega]
    · by_cases h4 : j = i
      · subst h4
        rw [List.getElem_append_left (by simp [tabTo]; omega), List.getElem_append_right (by simp [tabTo]; omega)]
        simp [tabTo]
      · rw [List.getElem_append_right (by simp [tabTo]; omega)]
        simp [tabTo, h3, show ¬ j < i + 1 by omega, show ¬ (i + 1 + (j - (i + 1)) < i) by omega]
        omega
theorem table_a {H : AHeap} {K : AV → AHeap → Prop} (h : K (.agg tabL) H) : (ACalls Try.prog) 149 [] H K := by
  refine acalls_go mo t149 (fun hs hu => ?_)
  simp only [c149, tabTo_zero, go_sem, Nat.reduceLeDiff, Nat.reduceAdd, Nat.reduceSub, Nat.reduceMul, Nat.reduceLT, Int.reduceLT, Int.reduceLE, Int.reduceAdd, Int.reduceSub, Int.reduceMul, Int.reduceToNat, Int.reduceNeg, Int.reduceEq, Nat.reducePow, Int.reducePow, Nat.reduceEqDiff, decide_true, decide_false, reduceIte, reduceCtorEq, Int.reduceBEq, Int.reduceBNe, bne_self_eq_false, Int.cast_ofNat_Int, Bool.not_true, Bool.not_false, IntKind.bits]
  refine go_loop mono (σ := Nat) (fun i => [.ptr (H.next + 0) 0 0, .ptr (H.next + 1) 0 0, .top, .int .i64 (i : Int), .top, .top, .top, .top, .top, .top, .top, .top, .top])
    (fun i => hp H [.row 171 0 (tabTo 0), .row 171 0 (tabTo i)]) (fun i => i ≤ 256) (fun i => 256 - i) 0 ?_ rfl (Nat.zero_le _) (fun i hi J hJ => ?_)
  · repeat first | exact forget_nil | apply forget_keep | apply forget_top
  simp only [go_sem, Nat.reduceLeDiff, Nat.reduceAdd, Nat.reduceSub, Nat.reduceMul, Nat.reduceLT, Int.reduceLT, Int.reduceLE, Int.reduceAdd, Int.reduceSub, Int.reduceMul, Int.reduceToNat, Int.reduceNeg, Int.reduceEq, Nat.reducePow, Int.reducePow, Nat.reduceEqDiff, decide_true, decide_false, reduceIte, reduceCtorEq, Int.reduceBEq, Int.reduceBNe, bne_self_eq_false, Int.cast_ofNat_Int, Bool.not_true, Bool.not_false, IntKind.bits]
  refine cnd_split (fun h1 => ?_) (fun h1 => ?_)
  · have hi' : i < 256 := by simp at h1; omega
    have hc : ((i : Int) < 256) = True := by simp; omega
    have hn : IntKind.wrap .u32 (i : Int) = ((BitVec.ofNat 32 i).toNat : Int) := by
      rw [wu32 (by omega) (by omega), BitVec.toNat_ofNat]
      omega
    have hl : i + 1 ≤ 256 := hi'
    simp only [hc, hn, go_sem, Nat.reduceLeDiff, Nat.reduceAdd, Nat.reduceSub, Nat.reduceMul, Nat.reduceLT, Int.reduceLT, Int.reduceLE, Int.reduceAdd, Int.reduceSub, Int.reduceMul, Int.reduceToNat, Int.reduceNeg, Int.reduceEq, Nat.reducePow, Int.reducePow, Nat.reduceEqDiff, decide_true, decide_false, reduceIte, reduceCtorEq, Int.reduceBEq, Int.reduceBNe, bne_self_eq_false, Int.cast_ofNat_Int, Bool.not_true, Bool.not_false, IntKind.bits]
    refine steps_a _ ?_
    have ht : ((ceight (BitVec.ofNat 32 i)).toNat : Int) = tabv i := rfl
    simp only [hc, ht, tabTo_len, hl, Nat.mul_one, tabTo_put i hi', wnext hi' (by decide : 256 ≤ 9223372036854775807), go_sem, Nat.reduceLeDiff, Nat.reduceAdd, Nat.reduceSub, Nat.reduceMul, Nat.reduceLT, Int.reduceLT, Int.reduceLE, Int.reduceAdd, Int.reduceSub, Int.reduceMul, Int.reduceToNat, Int.reduceNeg, Int.reduceEq, Nat.reducePow, Int.reducePow, Nat.reduceEqDiff, decide_true, decide_false, reduceIte, reduceCtorEq, Int.reduceBEq, Int.reduceBNe, bne_self_eq_false, Int.cast_ofNat_Int, Bool.not_true, Bool.not_false, IntKind.bits]
    refine hJ (i + 1) _ (by omega) (by omega) ?_
    repeat first | exact forget_nil | apply forget_keep | apply forget_top
  · have hi' : i = 256 := by simp at h1; omega
    subst hi'
    have h1 : (tabTo 256).take 256 = tabTo 256 := List.take_of_length_le (by rw [tabTo_len]; exact Nat.le_refl _)
    have h2 : (tabTo 0).drop 256 = [] := List.drop_of_length_le (by rw [tabTo_len]; exact Nat.le_refl _)
    simp only [tabTo_len, tabTo_one, h1, h2, go_sem, Nat.reduceLeDiff, Nat.reduceAdd, Nat.reduceSub, Nat.reduceMul, Nat.reduceLT, Int.reduceLT, Int.reduceLE, Int.reduceAdd, Int.reduceSub, Int.reduceMul, Int.reduceToNat, Int.reduceNeg, Int.reduceEq, Nat.reducePow, Int.reducePow, Nat.reduceEqDiff, decide_true, decide_false, reduceIte, reduceCtorEq, Int.reduceBEq, Int.reduceBNe, bne_self_eq_false, Int.cast_ofNat_Int, Bool.not_true, Bool.not_false, IntKind.bits]
    refine aret_plain hs (.agg _ (fun c hc => ?_)) ?_
    · obtain ⟨k, hk, rfl⟩ := List.mem_map.1 hc
      exact .int _ _
    · rw [tabTo_last]; exact h
theorem rstep_a (v : BitVec 32) {H : AHeap} {K : AV → AHeap → Prop} (h : K (.int .u32 ((cstep v).toNat : Int)) H) : (ACalls Try.prog) 188 [.int .u32 (v.toNat : Int)] H K := by
  refine acalls_go mo t188 (fun hs hu => ?_)
  have hm : ((v.toNat : Int).tmod 2 == 1) = v.getLsbD 0 := by
    rw [lsb_bv, Int.tmod_eq_emod_of_nonneg (by omega), show (v.toNat : Int) % 2 = ((v.toNat % 2 : Nat) : Int) by omega]
    rcases Nat.mod_two_eq_zero_or_one v.toNat with h | h <;> rw [h] <;> rfl
  have hd : IntKind.wrap .u32 ((v.toNat : Int).tdiv 2) = ((v >>> 1).toNat : Int) := by
    rw [BitVec.toNat_ushiftRight, Nat.shiftRight_eq_div_pow, Int.tdiv_eq_ediv_of_nonneg (by omega), wu32 (by omega) (by omega)]
    omega
  simp only [c188, hm, go_sem, Nat.reduceLeDiff, Nat.reduceAdd, Nat.reduceSub, Nat.reduceMul, Nat.reduceLT, Int.reduceLT, Int.reduceLE, Int.reduceAdd, Int.reduceSub, Int.reduceMul, Int.reduceToNat, Int.reduceNeg, Int.reduceEq, Nat.reducePow, Int.reducePow, Nat.reduceEqDiff, decide_true, decide_false, reduceIte, reduceCtorEq, Int.reduceBEq, Int.reduceBNe, bne_self_eq_false, Int.cast_ofNat_Int, Bool.not_true, Bool.not_false, IntKind.bits]
  refine cnd_split (fun h1 => ?_) (fun h1 => ?_)
  · simp only [hd, go_sem, Nat.reduceLeDiff, Nat.reduceAdd, Nat.reduceSub, Nat.reduceMul, Nat.reduceLT, Int.reduceLT, Int.reduceLE, Int.reduceAdd, Int.reduceSub, Int.reduceMul, Int.reduceToNat, Int.reduceNeg, Int.reduceEq, Nat.reducePow, Int.reducePow, Nat.reduceEqDiff, decide_true, decide_false, reduceIte, reduceCtorEq, Int.reduceBEq, Int.reduceBNe, bne_self_eq_false, Int.cast_ofNat_Int, Bool.not_true, Bool.not_false, IntKind.bits]
    refine aret_plain hs (.int _ _) ?_
    rw [show (3988292384 : Int) = ((poly : BitVec 32).toNat : Int) from by decide, xor_bv]
    rw [show cstep v = v >>> 1 ^^^ poly by rw [cstep, h1]; rfl] at h
    exact h
  · simp only [hd, go_sem, Nat.reduceLeDiff, Nat.reduceAdd, Nat.reduceSub, Nat.reduceMul, Nat.reduceLT, Int.reduceLT, Int.reduceLE, Int.reduceAdd, Int.reduceSub, Int.reduceMul, Int.reduceToNat, Int.reduceNeg, Int.reduceEq, Nat.reducePow, Int.reducePow, Nat.reduceEqDiff, decide_true, decide_false, reduceIte, reduceCtorEq, Int.reduceBEq, Int.reduceBNe, bne_self_eq_false, Int.cast_ofNat_Int, Bool.not_true, Bool.not_false, IntKind.bits]
    refine aret_plain hs (.int _ _) ?_
    rw [show cstep v = v >>> 1 by rw [cstep, h1]; simp] at h
    exact h
theorem reight_a (v : BitVec 32) {H : AHeap} {K : AV → AHeap → Prop} (h : K (.int .u32 ((ceight v).toNat : Int)) H) : (ACalls Try.prog) 175 [.int .u32 (v.toNat : Int)] H K := by
  refine acalls_go mo t175 (fun hs hu => ?_)
  simp only [c175, go_sem, Nat.reduceLeDiff, Nat.reduceAdd, Nat.reduceSub, Nat.reduceMul, Nat.reduceLT, Int.reduceLT, Int.reduceLE, Int.reduceAdd, Int.reduceSub, Int.reduceMul, Int.reduceToNat, Int.reduceNeg, Int.reduceEq, Nat.reducePow, Int.reducePow, Nat.reduceEqDiff, decide_true, decide_false, reduceIte, reduceCtorEq, Int.reduceBEq, Int.reduceBNe, bne_self_eq_false, Int.cast_ofNat_Int, Bool.not_true, Bool.not_false, IntKind.bits]
  refine go_rounds mono 9 ?_
  iterate 8
    simp (disch := omega) only [rnds_succ, wi64, go_sem, Nat.reduceLeDiff, Nat.reduceAdd, Nat.reduceSub, Nat.reduceMul, Nat.reduceLT, Int.reduceLT, Int.reduceLE, Int.reduceAdd, Int.reduceSub, Int.reduceMul, Int.reduceToNat, Int.reduceNeg, Int.reduceEq, Nat.reducePow, Int.reducePow, Nat.reduceEqDiff, decide_true, decide_false, reduceIte, reduceCtorEq, Int.reduceBEq, Int.reduceBNe, bne_self_eq_false, Int.cast_ofNat_Int, Bool.not_true, Bool.not_false, IntKind.bits]
    refine rstep_a _ ?_
  simp (disch := omega) only [rnds_succ, wi64, go_sem, Nat.reduceLeDiff, Nat.reduceAdd, Nat.reduceSub, Nat.reduceMul, Nat.reduceLT, Int.reduceLT, Int.reduceLE, Int.reduceAdd, Int.reduceSub, Int.reduceMul, Int.reduceToNat, Int.reduceNeg, Int.reduceEq, Nat.reducePow, Int.reducePow, Nat.reduceEqDiff, decide_true, decide_false, reduceIte, reduceCtorEq, Int.reduceBEq, Int.reduceBNe, bne_self_eq_false, Int.cast_ofNat_Int, Bool.not_true, Bool.not_false, IntKind.bits]
  exact aret_plain hs (.int _ _) h
def crcOf (c : BitVec 32) (l : List UInt8) : Int := ((xr (crun c l) call).toNat : Int)
theorem rmore_a {a : Int} {l : List UInt8} {H : AHeap} {K : AV → AHeap → Prop} (hs0 : l.length ≤ 9223372036854775807) (h : K (.int .i64 (crcOf (xr (BitVec.ofInt 32 a) call) l)) H) : (ACalls Try.prog) 153 [.int .i64 a, .str (B l)] H K := by
  refine acalls_go mo t153 (fun hs hu => ?_)
  have hx : bits .xor .u32 (IntKind.wrap .u32 a) 4294967295 = ((xr (BitVec.ofInt 32 a) call).toNat : Int) := by
    rw [IntKind.wrap_u32, ofInt_num, show (4294967295 : Int) = ((call : BitVec 32).toNat : Int) from by decide, xr_bv]
  simp only [c153, hx, B_size, go_sem, Nat.reduceLeDiff, Nat.reduceAdd, Nat.reduceSub, Nat.reduceMul, Nat.reduceLT, Int.reduceLT, Int.reduceLE, Int.reduceAdd, Int.reduceSub, Int.reduceMul, Int.reduceToNat, Int.reduceNeg, Int.reduceEq, Nat.reducePow, Int.reducePow, Nat.reduceEqDiff, decide_true, decide_false, reduceIte, reduceCtorEq, Int.reduceBEq, Int.reduceBNe, bne_self_eq_false, Int.cast_ofNat_Int, Bool.not_true, Bool.not_false, IntKind.bits]
  refine go_loop mono (σ := Nat) (fun i => [.int .i64 a, .str (B l), .top, .top, .int .i64 0, .int .u32 ((crun (xr (BitVec.ofInt 32 a) call) (l.take i)).toNat : Int), .int .i64 (i : Int), .top, .top, .top, .top, .top, .top, .top, .top, .top, .top, .top, .top, .top, .top, .top, .top, .top, .top, .top])
    (fun _ => hp H []) (fun i => i ≤ l.length) (fun i => l.length - i) 0 ?_ rfl (Nat.zero_le _) (fun i hi J hJ => ?_)
  · simp only [List.take_zero, crun_nil]
    repeat first | exact forget_nil | apply forget_keep | apply forget_top
  simp only [B_size, go_sem, Nat.reduceLeDiff, Nat.reduceAdd, Nat.reduceSub, Nat.reduceMul, Nat.reduceLT, Int.reduceLT, Int.reduceLE, Int.reduceAdd, Int.reduceSub, Int.reduceMul, Int.reduceToNat, Int.reduceNeg, Int.reduceEq, Nat.reducePow, Int.reducePow, Nat.reduceEqDiff, decide_true, decide_false, reduceIte, reduceCtorEq, Int.reduceBEq, Int.reduceBNe, bne_self_eq_false, Int.cast_ofNat_Int, Bool.not_true, Bool.not_false, IntKind.bits]
  refine cnd_split (fun h1 => ?_) (fun h1 => ?_)
  · have hi' : i < l.length := by simpa using h1
    have hc : (0 : Int) ≤ (i : Int) := by omega
    simp (disch := omega) only [hc, B_list, byte_get l i hi', IntKind.wrap_u32, byte_num, xr_bv, wnext hi' hs0, go_sem, Nat.reduceLeDiff, Nat.reduceAdd, Nat.reduceSub, Nat.reduceMul, Nat.reduceLT, Int.reduceLT, Int.reduceLE, Int.reduceAdd, Int.reduceSub, Int.reduceMul, Int.reduceToNat, Int.reduceNeg, Int.reduceEq, Nat.reducePow, Int.reducePow, Nat.reduceEqDiff, decide_true, decide_false, reduceIte, reduceCtorEq, Int.reduceBEq, Int.reduceBNe, bne_self_eq_false, Int.cast_ofNat_Int, Bool.not_true, Bool.not_false, IntKind.bits]
    refine reight_a _ ?_
    simp (disch := omega) only [wnext hi' hs0, go_sem, Nat.reduceLeDiff, Nat.reduceAdd, Nat.reduceSub, Nat.reduceMul, Nat.reduceLT, Int.reduceLT, Int.reduceLE, Int.reduceAdd, Int.reduceSub, Int.reduceMul, Int.reduceToNat, Int.reduceNeg, Int.reduceEq, Nat.reducePow, Int.reducePow, Nat.reduceEqDiff, decide_true, decide_false, reduceIte, reduceCtorEq, Int.reduceBEq, Int.reduceBNe, bne_self_eq_false, Int.cast_ofNat_Int, Bool.not_true, Bool.not_false, IntKind.bits]
    refine hJ (i + 1) _ (by omega) (by omega) ?_
    rw [crun_take _ _ _ hi']
    repeat first | exact forget_nil | apply forget_keep | apply forget_top
  · have hi' : i = l.length := by simp at h1; omega
    subst hi'
    have hw : ∀ v : BitVec 32, IntKind.wrap .i64 (v.toNat : Int) = (v.toNat : Int) := fun v => wi64 (by omega) (by have := v.isLt; omega)
    have hy : ∀ v : BitVec 32, bits .xor .u32 (v.toNat : Int) 4294967295 = ((xr v call).toNat : Int) := fun v => by
      rw [show (4294967295 : Int) = ((call : BitVec 32).toNat : Int) from by decide, xr_bv]
    simp only [hy, hw, go_sem, Nat.reduceLeDiff, Nat.reduceAdd, Nat.reduceSub, Nat.reduceMul, Nat.reduceLT, Int.reduceLT, Int.reduceLE, Int.reduceAdd, Int.reduceSub, Int.reduceMul, Int.reduceToNat, Int.reduceNeg, Int.reduceEq, Nat.reducePow, Int.reducePow, Nat.reduceEqDiff, decide_true, decide_false, reduceIte, reduceCtorEq, Int.reduceBEq, Int.reduceBNe, bne_self_eq_false, Int.cast_ofNat_Int, Bool.not_true, Bool.not_false, IntKind.bits]
    refine aret_plain hs (.int _ _) ?_
    try rw [List.take_of_length_le (Nat.le_refl _)]
    exact h
theorem rsum_a {l : List UInt8} {H : AHeap} {K : AV → AHeap → Prop} (hs0 : l.length ≤ 9223372036854775807) (h : K (.int .i64 (crcOf call l)) H) : (ACalls Try.prog) 98 [.str (B l)] H K := by
  refine acalls_go mo t98 (fun hs hu => ?_)
  simp only [c98, go_sem, Nat.reduceLeDiff, Nat.reduceAdd, Nat.reduceSub, Nat.reduceMul, Nat.reduceLT, Int.reduceLT, Int.reduceLE, Int.reduceAdd, Int.reduceSub, Int.reduceMul, Int.reduceToNat, Int.reduceNeg, Int.reduceEq, Nat.reducePow, Int.reducePow, Nat.reduceEqDiff, decide_true, decide_false, reduceIte, reduceCtorEq, Int.reduceBEq, Int.reduceBNe, bne_self_eq_false, Int.cast_ofNat_Int, Bool.not_true, Bool.not_false, IntKind.bits]
  refine rmore_a hs0 ?_
  simp only [go_sem, Nat.reduceLeDiff, Nat.reduceAdd, Nat.reduceSub, Nat.reduceMul, Nat.reduceLT, Int.reduceLT, Int.reduceLE, Int.reduceAdd, Int.reduceSub, Int.reduceMul, Int.reduceToNat, Int.reduceNeg, Int.reduceEq, Nat.reducePow, Int.reducePow, Nat.reduceEqDiff, decide_true, decide_false, reduceIte, reduceCtorEq, Int.reduceBEq, Int.reduceBNe, bne_self_eq_false, Int.cast_ofNat_Int, Bool.not_true, Bool.not_false, IntKind.bits]
  refine aret_plain hs (.int _ _) ?_
  rw [show xr (BitVec.ofInt 32 0) call = call from by decide]
  exact h
theorem sum_a {l : List (List UInt8)} {H : AHeap} {K : AV → AHeap → Prop} (hl : l.length ≤ 1000) (hs0 : ∀ s ∈ l, s.length ≤ 9223372036854775807) (h : K (.int .i64 (crcOf call l.flatten)) H) : (ACalls Try.prog) 94 [.imm 1 (l.map (fun s => .str (B s)))] H K := by
  refine acalls_go mo t94 (fun hs hu => ?_)
  simp only [c94, go_sem, Nat.reduceLeDiff, Nat.reduceAdd, Nat.reduceSub, Nat.reduceMul, Nat.reduceLT, Int.reduceLT, Int.reduceLE, Int.reduceAdd, Int.reduceSub, Int.reduceMul, Int.reduceToNat, Int.reduceNeg, Int.reduceEq, Nat.reducePow, Int.reducePow, Nat.reduceEqDiff, decide_true, decide_false, reduceIte, reduceCtorEq, Int.reduceBEq, Int.reduceBNe, bne_self_eq_false, Int.cast_ofNat_Int, Bool.not_true, Bool.not_false, IntKind.bits]
  refine table_a ?_
  have h1 : (tabL).take 256 = tabL := List.take_of_length_le (by rw [← tabTo_last, tabTo_len]; exact Nat.le_refl _)
  have h2 : tabL.length = 256 := by rw [← tabTo_last, tabTo_len]
  have h3 : tabL.all AV.one = true := by rw [← tabTo_last, tabTo_one]
  have h4 : (tabTo 0).drop 256 = [] := List.drop_of_length_le (by rw [tabTo_len]; exact Nat.le_refl _)
  simp only [tabTo_zero, tabTo_len, h1, h2, h3, h4, List.length_map, go_sem, Nat.reduceLeDiff, Nat.reduceAdd, Nat.reduceSub, Nat.reduceMul, Nat.reduceLT, Int.reduceLT, Int.reduceLE, Int.reduceAdd, Int.reduceSub, Int.reduceMul, Int.reduceToNat, Int.reduceNeg, Int.reduceEq, Nat.reducePow, Int.reducePow, Nat.reduceEqDiff, decide_true, decide_false, reduceIte, reduceCtorEq, Int.reduceBEq, Int.reduceBNe, bne_self_eq_false, Int.cast_ofNat_Int, Bool.not_true, Bool.not_false, IntKind.bits]
  refine go_loop mono (σ := Nat) (fun i => [.imm 1 (l.map (fun s => .str (B s))), .top, .int .i64 0, .ptr (H.next + 0) 0 0, .int .u32 ((crun call (l.take i).flatten).toNat : Int), .top, .top, .top, .imm 1 (l.map (fun s => .str (B s))), .int .i64 (l.length : Int), .int .i64 (i : Int), .top, .top, .top, .top, .top, .top, .top, .top, .top, .top])
    (fun _ => hp H [.row 171 0 tabL]) (fun i => i ≤ l.length) (fun i => l.length - i) 0 ?_ rfl (Nat.zero_le _) (fun i hi J hJ => ?_)
  · simp only [List.take_zero, List.flatten_nil, crun_nil]
    rw [show (4294967295 : Int) = ((call : BitVec 32).toNat : Int) from by decide]
    repeat first | exact forget_nil | apply forget_keep | apply forget_top
  simp only [go_sem, Nat.reduceLeDiff, Nat.reduceAdd, Nat.reduceSub, Nat.reduceMul, Nat.reduceLT, Int.reduceLT, Int.reduceLE, Int.reduceAdd, Int.reduceSub, Int.reduceMul, Int.reduceToNat, Int.reduceNeg, Int.reduceEq, Nat.reducePow, Int.reducePow, Nat.reduceEqDiff, decide_true, decide_false, reduceIte, reduceCtorEq, Int.reduceBEq, Int.reduceBNe, bne_self_eq_false, Int.cast_ofNat_Int, Bool.not_true, Bool.not_false, IntKind.bits]
  refine cnd_split (fun h1 => ?_) (fun h1 => ?_)
  · have hi' : i < l.length := by simpa using h1
    have hx : (l.map (fun s => AV.str (B s)))[i]? = some (.str (B l[i])) := by rw [List.getElem?_map, List.getElem?_eq_getElem hi']; rfl
    simp only [hx, go_sem, Nat.reduceLeDiff, Nat.reduceAdd, Nat.reduceSub, Nat.reduceMul, Nat.reduceLT, Int.reduceLT, Int.reduceLE, Int.reduceAdd, Int.reduceSub, Int.reduceMul, Int.reduceToNat, Int.reduceNeg, Int.reduceEq, Nat.reducePow, Int.reducePow, Nat.reduceEqDiff, decide_true, decide_false, reduceIte, reduceCtorEq, Int.reduceBEq, Int.reduceBNe, bne_self_eq_false, Int.cast_ofNat_Int, Bool.not_true, Bool.not_false, IntKind.bits]
    refine run_a (hs0 _ (List.getElem_mem hi')) (by rw [hp_get]; rfl) ?_
    simp only [wnext hi' (by omega : l.length ≤ 9223372036854775807), go_sem, Nat.reduceLeDiff, Nat.reduceAdd, Nat.reduceSub, Nat.reduceMul, Nat.reduceLT, Int.reduceLT, Int.reduceLE, Int.reduceAdd, Int.reduceSub, Int.reduceMul, Int.reduceToNat, Int.reduceNeg, Int.reduceEq, Nat.reducePow, Int.reducePow, Nat.reduceEqDiff, decide_true, decide_false, reduceIte, reduceCtorEq, Int.reduceBEq, Int.reduceBNe, bne_self_eq_false, Int.cast_ofNat_Int, Bool.not_true, Bool.not_false, IntKind.bits]
    refine hJ (i + 1) _ (by omega) (by omega) ?_
    rw [← crun_append, show (l.take (i + 1)).flatten = (l.take i).flatten ++ l[i] by rw [List.take_succ_eq_append_getElem hi', List.flatten_append]; simp]
    repeat first | exact forget_nil | apply forget_keep | apply forget_top
  · have hi' : i = l.length := by simp at h1; omega
    subst hi'
    have hw : ∀ v : BitVec 32, IntKind.wrap .i64 (v.toNat : Int) = (v.toNat : Int) := fun v => wi64 (by omega) (by have := v.isLt; omega)
    have hy : ∀ v : BitVec 32, bits .xor .u32 (v.toNat : Int) 4294967295 = ((xr v call).toNat : Int) := fun v => by
      rw [show (4294967295 : Int) = ((call : BitVec 32).toNat : Int) from by decide, xr_bv]
    simp only [hy, hw, go_sem, Nat.reduceLeDiff, Nat.reduceAdd, Nat.reduceSub, Nat.reduceMul, Nat.reduceLT, Int.reduceLT, Int.reduceLE, Int.reduceAdd, Int.reduceSub, Int.reduceMul, Int.reduceToNat, Int.reduceNeg, Int.reduceEq, Nat.reducePow, Int.reducePow, Nat.reduceEqDiff, decide_true, decide_false, reduceIte, reduceCtorEq, Int.reduceBEq, Int.reduceBNe, bne_self_eq_false, Int.cast_ofNat_Int, Bool.not_true, Bool.not_false, IntKind.bits]
    refine aret_plain hs (.int _ _) ?_
    try rw [List.take_of_length_le (Nat.le_refl _)]
    exact h
end Go.Proofs.Ytblflecalomgfaa.AL
