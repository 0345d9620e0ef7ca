/- Packages num and postilionref01 told: numbers of four bytes. -/
import Derived.Test.YtmdgjfadbhenjaaGreatDoorQCellsRowALA4
import Derived.Test.YtmdgjfadbhenjaaGreatDoorQCellsRowALTree1
import Derived.Shelf.Strings.Builder1
import Derived.Test.YtmdgjfadbhenjaaGreatDoorQCellsRowALA3
import Derived.Test.YtmdgjfadbhenjaaGreatDoorProg
import Derived.KernelRfl
import Derived.Shelf.Lay
set_option linter.unusedSimpArgs false
set_option linter.unusedVariables false
set_option maxRecDepth 100000
namespace Go.Proofs.YtmdgjfadbhenjaaGreatDoor.AL
open Go Go.Proofs
attribute [local go_sem] go_seq go_skip go_region go_regionN go_fregion rgF_some go_cond go_block go_exit go_ret nxt_nil nxt_code nxt_blk nxt_cut leave_nil leave_code leave_cut leave_blk rtn_nil rtn_code rtn_blk rtn_cut cnd_t cnd_f rgn_nil rgY_some rgY_none rgH_some rgP_some retTo_is rgV_func grd_und grd_tt grd_ff grd_tf grd_ft rgn_q rgn_alloc rgn_box rgn_store rgn_lit rgn_litw rgn_litc litCells_nil litCells_cons rgn_app rgn_copy rgn_mk rgn_s2b rgn_call rgn_callv rgn_stop rgn_slice3 aslice3 rgn_slice3l aslice3l rgn_appz rgn_clear rgn_range rgn_next arange acap rgn_put rgn_mkmap rgn_lookup rgn_mapup alookup_nilm alookup_map amapup_map afound_ok afound_no rgn_c rgn_cv qclV_func aloadr rgn_guard post_ret post_normal retY_some ares aresL ares1 AX.ev aput List.getD_cons_zero List.getD_cons_succ List.set_cons_zero List.set_cons_succ List.map_cons List.map_nil aq abin aint astr abeq aconv asame aextract alenS alenL_nils alenL_emp alenL_imm alenL_wr alenL_wc aun apart aload afieldAddr afield aidxSl_wr aidxSl_wc aidxSl_imm aidxPt aidxStr aidxArr abound asliceStr asliceSl asliceArr abest anonil afill astore acells_nils acells_emp acells_imm acells_wr acells_wc acells_str acopy litAll amk as2b anil nilOf aseq aeqs aeqv fits fit1 hp_next hp_push hp_get hp_set List.length_cons List.length_nil List.getElem?_cons_zero List.getElem?_cons_succ List.cons_append List.nil_append List.append_nil List.take_succ_cons List.take_zero List.drop_succ_cons List.drop_zero List.all_cons List.all_nil Option.map_some Option.some.injEq Bool.and_true Bool.true_and Bool.false_eq_true if_true if_false ite_true ite_false Bool.and_self true_and and_true and_self Nat.zero_add Nat.le_refl Int.toNat_natCast beq_self_eq_true eq_self tops_zero tops_succ Int.natCast_nonneg List.take_nil List.drop_nil Option.map_none flat_bool one_bool cells_bool flat_int one_int cells_int flat_str one_str cells_str flat_nilp one_nilp cells_nilp flat_ptr one_ptr cells_ptr flat_nils one_nils cells_nils flat_imm one_imm cells_imm flat_wr one_wr cells_wr flat_wc one_wc cells_wc flat_func one_func cells_func flat_nilf one_nilf cells_nilf flat_map one_map cells_map flat_nilm one_nilm cells_nilm flat_iface one_iface cells_iface flat_nili one_nili cells_nili flat_rd one_rd cells_rd flat_emp one_emp cells_emp flat_byteV one_byteV cells_byteV flat_agg cells_agg one_agg B_size B_list B_ext B_toList B_app List.take_length Int.le_refl
theorem take_more {l : List UInt8} {i : Nat} (hi : i < l.length) : l.take (i + 1) = l.take i ++ [l[i]] := List.take_succ_eq_append_getElem hi
/-- What FromBig answers. -/
def fromBig (l : List UInt8) : AV := if l.length < 4 then .tup [.int .i64 0, .bool false] else .tup [.int .i64 (big (l.take 4) : Int), .bool true]
theorem under_nb (n : Nat) (a : Int) (b : Bool) : (AV.tup [.int .i64 a, .bool b]).under n := .tup _ (fun c hc => by
  simp only [List.mem_cons, List.not_mem_nil, or_false] at hc
  rcases hc with rfl | rfl
  · exact .int _ _
  · exact .bool _)
theorem fromBig_a {l : List UInt8} {H : AHeap} {K : AV → AHeap → Prop} (h : K (fromBig l) H) : (ACalls Tryz.prog) 169 [.str (B l)] H K := by
  refine acalls_go mo t169 (fun hs hu => ?_)
  simp only [c169, B_size, go_sem, Nat.reduceLeDiff, Nat.reduceAdd, Nat.reduceSub, Nat.reduceMul, Nat.reduceLT, Int.reduceLT, Int.reduceLE, Int.reduceAdd, Int.reduceSub, Int.reduceMul, Int.reduceToNat, Int.reduceNeg, Int.reduceEq, Nat.reducePow, Int.reducePow, Nat.reduceEqDiff, decide_true, decide_false, reduceIte, reduceCtorEq, Int.reduceBEq, Int.reduceBNe, bne_self_eq_false, Int.cast_ofNat_Int, Bool.not_true, Bool.not_false, IntKind.bits]
  refine cnd_split (fun h1 => ?_) (fun h1 => ?_)
  · have h2 : l.length < 4 := by simp at h1; omega
    simp only [go_sem, Nat.reduceLeDiff, Nat.reduceAdd, Nat.reduceSub, Nat.reduceMul, Nat.reduceLT, Int.reduceLT, Int.reduceLE, Int.reduceAdd, Int.reduceSub, Int.reduceMul, Int.reduceToNat, Int.reduceNeg, Int.reduceEq, Nat.reducePow, Int.reducePow, Nat.reduceEqDiff, decide_true, decide_false, reduceIte, reduceCtorEq, Int.reduceBEq, Int.reduceBNe, bne_self_eq_false, Int.cast_ofNat_Int, Bool.not_true, Bool.not_false, IntKind.bits]
    rw [fromBig, if_pos h2] at h
    exact aret_plain hs (under_nb _ _ _) h
  · have h2 : 4 ≤ l.length := by simp at h1; omega
    have h3 : (4 : Int) ≤ (l.length : Int) := by omega
    have h4 : min 4 l.length = 4 := by omega
    have h5 : (4 : Nat) ≤ 9223372036854775807 := by decide
    simp only [h3, B_ext, B_size, B_list, List.length_take, h4, h5, go_sem, Nat.reduceLeDiff, Nat.reduceAdd, Nat.reduceSub, Nat.reduceMul, Nat.reduceLT, Int.reduceLT, Int.reduceLE, Int.reduceAdd, Int.reduceSub, Int.reduceMul, Int.reduceToNat, Int.reduceNeg, Int.reduceEq, Nat.reducePow, Int.reducePow, Nat.reduceEqDiff, decide_true, decide_false, reduceIte, reduceCtorEq, Int.reduceBEq, Int.reduceBNe, bne_self_eq_false, Int.cast_ofNat_Int, Bool.not_true, Bool.not_false, IntKind.bits]
    rw [fromBig, if_neg (by omega)] at h
    refine go_loop mono (σ := Nat) (fun i => [.str (B l), .top, .int .i64 0, .bool false, .int .i64 (big ((l.take 4).take i) : Int), .top, .top, .top, .top, .top, .top, .top, .wr (H.next + 0) 0 0 4 1, .int .i64 4, .int .i64 (i : Int), .top, .top, .top, .top, .top, .top, .top, .top, .top, .top])
      (fun _ => hp H [.row 5 0 ((l.take 4).map byteV)]) (fun i => i ≤ 4) (fun i => 4 - i) 0 ?_ rfl (Nat.zero_le _) (fun i hi J hJ => ?_)
    · simp only [List.take_zero]
      repeat first | exact forget_nil | apply forget_keep | apply forget_top
    simp only [go_sem, Nat.reduceLeDiff, Nat.reduceAdd, Nat.reduceSub, Nat.reduceMul, Nat.reduceLT, Int.reduceLT, Int.reduceLE, Int.reduceAdd, Int.reduceSub, Int.reduceMul, Int.reduceToNat, Int.reduceNeg, Int.reduceEq, Nat.reducePow, Int.reducePow, Nat.reduceEqDiff, decide_true, decide_false, reduceIte, reduceCtorEq, Int.reduceBEq, Int.reduceBNe, bne_self_eq_false, Int.cast_ofNat_Int, Bool.not_true, Bool.not_false, IntKind.bits]
    refine cnd_split (fun h6 => ?_) (fun h6 => ?_)
    · have hi' : i < 4 := by simp at h6; omega
      have hl : i < (l.take 4).length := by simp; omega
      have hc : ((i : Int) < 4) = True := by simp; omega
      have hb := big_lt i ((l.take 4).take i) (by simp; omega)
      have hb2 : 256 ^ i ≤ 256 ^ 3 := Nat.pow_le_pow_right (by decide) (by omega)
      have hw : IntKind.wrap .i64 ((l.take 4)[i].toNat : Int) = ((l.take 4)[i].toNat : Int) := wi64 (by omega) (by have := (l.take 4)[i].toNat_lt; omega)
      simp (disch := omega) only [hc, bytesV_get _ i hl, Nat.mul_one, hw, shl_i64, wi64, or_byte, wnext hi', go_sem, Nat.reduceLeDiff, Nat.reduceAdd, Nat.reduceSub, Nat.reduceMul, Nat.reduceLT, Int.reduceLT, Int.reduceLE, Int.reduceAdd, Int.reduceSub, Int.reduceMul, Int.reduceToNat, Int.reduceNeg, Int.reduceEq, Nat.reducePow, Int.reducePow, Nat.reduceEqDiff, decide_true, decide_false, reduceIte, reduceCtorEq, Int.reduceBEq, Int.reduceBNe, bne_self_eq_false, Int.cast_ofNat_Int, Bool.not_true, Bool.not_false, IntKind.bits]
      refine hJ (i + 1) _ (by omega) (by omega) ?_
      rw [take_more hl, big_snoc]
      repeat first | exact forget_nil | apply forget_keep | apply forget_top
    · have hi' : i = 4 := by simp at h6; omega
      subst hi'
      simp only [List.take_take, Nat.min_self, go_sem, Nat.reduceLeDiff, Nat.reduceAdd, Nat.reduceSub, Nat.reduceMul, Nat.reduceLT, Int.reduceLT, Int.reduceLE, Int.reduceAdd, Int.reduceSub, Int.reduceMul, Int.reduceToNat, Int.reduceNeg, Int.reduceEq, Nat.reducePow, Int.reducePow, Nat.reduceEqDiff, decide_true, decide_false, reduceIte, reduceCtorEq, Int.reduceBEq, Int.reduceBNe, bne_self_eq_false, Int.cast_ofNat_Int, Bool.not_true, Bool.not_false, IntKind.bits]
      exact aret_plain hs (under_nb _ _ _) h
theorem four_get {l : List UInt8} (h : 4 ≤ l.length) : big (l.take 4) = l[0].toNat * 16777216 + l[1].toNat * 65536 + l[2].toNat * 256 + l[3].toNat := by
  match l, h with
  | a :: b :: c :: d :: r, _ => simp [big]; omega
/-- The numbers of n times four bytes. -/
def words : Nat → List UInt8 → List Int
  | 0, _ => []
  | n + 1, l => (big (l.take 4) : Int) :: words n (l.drop 4)
theorem words_len : ∀ (n : Nat) (l : List UInt8), (words n l).length = n
  | 0, _ => rfl
  | n + 1, l => by simp [words, words_len n]
theorem words_snoc : ∀ (n : Nat) (l : List UInt8), words (n + 1) l = words n l ++ [(big ((l.drop (4 * n)).take 4) : Int)]
  | 0, l => by simp [words]
  | n + 1, l => by
    rw [words, words_snoc n, words, List.drop_drop, List.cons_append, show 4 + 4 * n = 4 * (n + 1) by omega]
/-- What FromBigs answers. -/
def fromBigs (l : List UInt8) : AV := if l.length % 4 = 0 then .tup [immOf 1 ((words (l.length / 4) l).map (.int .i64)), .bool true] else .tup [.nils, .bool false]
theorem under_tb {n : Nat} {y : AV} (b : Bool) (h : y.under n) : (AV.tup [y, .bool b]).under n := .tup _ (fun c hc => by
  simp only [List.mem_cons, List.not_mem_nil, or_false] at hc
  rcases hc with rfl | rfl
  · exact h
  · exact .bool _)
theorem mod4 (l : List UInt8) : ((l.length : Int).tmod 4 != 0) = decide (¬ l.length % 4 = 0) := by
  rw [Int.tmod_eq_emod_of_nonneg (by omega), show (l.length : Int) % 4 = ((l.length % 4 : Nat) : Int) by omega]
  by_cases h : l.length % 4 = 0 <;> simp [h]
  omega
theorem fromBigs_a {l : List UInt8} {H : AHeap} {K : AV → AHeap → Prop} (hl : l.length ≤ 100000) (h : K (fromBigs l) H) : (ACalls Tryz.prog) 126 [.str (B l)] H K := by
  refine acalls_go mo t126 (fun hs hu => ?_)
  simp only [c126, B_size, mod4, go_sem, Nat.reduceLeDiff, Nat.reduceAdd, Nat.reduceSub, Nat.reduceMul, Nat.reduceLT, Int.reduceLT, Int.reduceLE, Int.reduceAdd, Int.reduceSub, Int.reduceMul, Int.reduceToNat, Int.reduceNeg, Int.reduceEq, Nat.reducePow, Int.reducePow, Nat.reduceEqDiff, decide_true, decide_false, reduceIte, reduceCtorEq, Int.reduceBEq, Int.reduceBNe, bne_self_eq_false, Int.cast_ofNat_Int, Bool.not_true, Bool.not_false, IntKind.bits]
  refine cnd_split (fun h1 => ?_) (fun h1 => ?_)
  · have h2 : ¬ l.length % 4 = 0 := by simpa using h1
    simp only [go_sem, Nat.reduceLeDiff, Nat.reduceAdd, Nat.reduceSub, Nat.reduceMul, Nat.reduceLT, Int.reduceLT, Int.reduceLE, Int.reduceAdd, Int.reduceSub, Int.reduceMul, Int.reduceToNat, Int.reduceNeg, Int.reduceEq, Nat.reducePow, Int.reducePow, Nat.reduceEqDiff, decide_true, decide_false, reduceIte, reduceCtorEq, Int.reduceBEq, Int.reduceBNe, bne_self_eq_false, Int.cast_ofNat_Int, Bool.not_true, Bool.not_false, IntKind.bits]
    rw [fromBigs, if_neg h2] at h
    exact aret_plain hs (under_tb _ .nils) h
  · have h2 : l.length % 4 = 0 := by simpa using h1
    rw [fromBigs, if_pos h2] at h
    simp only [go_sem, Nat.reduceLeDiff, Nat.reduceAdd, Nat.reduceSub, Nat.reduceMul, Nat.reduceLT, Int.reduceLT, Int.reduceLE, Int.reduceAdd, Int.reduceSub, Int.reduceMul, Int.reduceToNat, Int.reduceNeg, Int.reduceEq, Nat.reducePow, Int.reducePow, Nat.reduceEqDiff, decide_true, decide_false, reduceIte, reduceCtorEq, Int.reduceBEq, Int.reduceBNe, bne_self_eq_false, Int.cast_ofNat_Int, Bool.not_true, Bool.not_false, IntKind.bits]
    refine go_loop mono (σ := Nat) (fun i => [.str (B (l.drop (4 * i))), .top, .nils, .bool false, slv (H.next + 0) 1 1 i, .top, .top, .top, .top, .top, .top, .top, .top, .top, .top, .top, .top, .top, .top, .top, .top, .top, .top, .top, .top])
      (fun i => hp H (slh 3 i ((words i l).map (.int .i64)))) (fun i => 4 * i ≤ l.length) (fun i => l.length - i) 0 ?_ rfl (by simp) (fun i hi J hJ => ?_)
    · simp only [Nat.mul_zero, List.drop_zero, slv]
      repeat first | exact forget_nil | apply forget_keep | apply forget_top
    simp only [B_toList, go_sem, Nat.reduceLeDiff, Nat.reduceAdd, Nat.reduceSub, Nat.reduceMul, Nat.reduceLT, Int.reduceLT, Int.reduceLE, Int.reduceAdd, Int.reduceSub, Int.reduceMul, Int.reduceToNat, Int.reduceNeg, Int.reduceEq, Nat.reducePow, Int.reducePow, Nat.reduceEqDiff, decide_true, decide_false, reduceIte, reduceCtorEq, Int.reduceBEq, Int.reduceBNe, bne_self_eq_false, Int.cast_ofNat_Int, Bool.not_true, Bool.not_false, IntKind.bits]
    refine cnd_split (fun h6 => ?_) (fun h6 => ?_)
    · have hi' : 4 * i + 4 ≤ l.length := by
        have : l.drop (4 * i) ≠ [] := by simpa using h6
        have := List.length_pos_iff.2 this
        simp at this
        omega
      simp only [go_sem, Nat.reduceLeDiff, Nat.reduceAdd, Nat.reduceSub, Nat.reduceMul, Nat.reduceLT, Int.reduceLT, Int.reduceLE, Int.reduceAdd, Int.reduceSub, Int.reduceMul, Int.reduceToNat, Int.reduceNeg, Int.reduceEq, Nat.reducePow, Int.reducePow, Nat.reduceEqDiff, decide_true, decide_false, reduceIte, reduceCtorEq, Int.reduceBEq, Int.reduceBNe, bne_self_eq_false, Int.cast_ofNat_Int, Bool.not_true, Bool.not_false, IntKind.bits]
      refine fromBig_a ?_
      have hd : ¬ (l.drop (4 * i)).length < 4 := by simp; omega
      have hd2 : (4 : Int) ≤ ((l.drop (4 * i)).length : Int) := by omega
      simp only [fromBig, hd, B_size, B_ext, List.take_length, List.drop_drop, go_sem, Nat.reduceLeDiff, Nat.reduceAdd, Nat.reduceSub, Nat.reduceMul, Nat.reduceLT, Int.reduceLT, Int.reduceLE, Int.reduceAdd, Int.reduceSub, Int.reduceMul, Int.reduceToNat, Int.reduceNeg, Int.reduceEq, Nat.reducePow, Int.reducePow, Nat.reduceEqDiff, decide_true, decide_false, reduceIte, reduceCtorEq, Int.reduceBEq, Int.reduceBNe, bne_self_eq_false, Int.cast_ofNat_Int, Bool.not_true, Bool.not_false, IntKind.bits]
      rw [aapp_slv0 (m := 1) (k := i) (b := 8) (cs := (words i l).map (.int .i64)) (xs := [.int .i64 (big ((l.drop (4 * i)).take 4) : Int)]) (by simp [words_len]) (by simp [cells_int]) rfl (by decide) (by simp [cells_int, one_int]) (by omega)]
      simp only [hd2, Int.le_refl, B_ext, B_size, List.take_length, List.drop_drop, go_sem, Nat.reduceLeDiff, Nat.reduceAdd, Nat.reduceSub, Nat.reduceMul, Nat.reduceLT, Int.reduceLT, Int.reduceLE, Int.reduceAdd, Int.reduceSub, Int.reduceMul, Int.reduceToNat, Int.reduceNeg, Int.reduceEq, Nat.reducePow, Int.reducePow, Nat.reduceEqDiff, decide_true, decide_false, reduceIte, reduceCtorEq, Int.reduceBEq, Int.reduceBNe, bne_self_eq_false, Int.cast_ofNat_Int, Bool.not_true, Bool.not_false, IntKind.bits]
      have hh : (words i l).map (AV.int .i64) ++ [AV.int .i64 (big ((l.drop (4 * i)).take 4) : Int)].flatMap AV.cells = (words (i + 1) l).map (AV.int .i64) := by
        rw [words_snoc, List.map_append]
        rfl
      rw [hh]
      refine hJ (i + 1) _ (by omega) (by omega) ?_
      rw [show 4 * (i + 1) = 4 * i + 4 by omega]
      repeat first | exact forget_nil | apply forget_keep | apply forget_top
    · have hi' : l.length / 4 = i := by
        have : l.drop (4 * i) = [] := by simpa using h6
        have := congrArg List.length this
        simp at this
        omega
      simp only [go_sem, Nat.reduceLeDiff, Nat.reduceAdd, Nat.reduceSub, Nat.reduceMul, Nat.reduceLT, Int.reduceLT, Int.reduceLE, Int.reduceAdd, Int.reduceSub, Int.reduceMul, Int.reduceToNat, Int.reduceNeg, Int.reduceEq, Nat.reducePow, Int.reducePow, Nat.reduceEqDiff, decide_true, decide_false, reduceIte, reduceCtorEq, Int.reduceBEq, Int.reduceBNe, bne_self_eq_false, Int.cast_ofNat_Int, Bool.not_true, Bool.not_false, IntKind.bits]
      rw [hi'] at h
      exact aret_slv (xs := (words i l).map (.int .i64)) (by simp [cells_int]) (by simp [words_len]) (by decide) (ints_flat _ _).symm hs (under_map _ (cells_int _) _ (fun _ => .int _ _) _ _) (fun y => .tup [y, .bool true])
        (fun y H0 H1 y1 hh => .tup _ _ [] [.bool true] _ _ hh) (fun y hy => under_tb _ hy) h
/-- The four bytes of a number. -/
def four (n : Int) : List UInt8 := [b8 (n / 16777216), b8 (n / 65536), b8 (n / 256), b8 n]
def fours (l : List Int) : List UInt8 := l.flatMap four
theorem fours_snoc (l : List Int) (n : Int) : fours (l ++ [n]) = fours l ++ four n := by simp [fours]
theorem fours_len : ∀ l : List Int, (fours l).length = l.length * 4
  | [] => rfl
  | n :: l => by
    rw [fours, List.flatMap_cons, List.length_append, ← fours, fours_len l, List.length_cons, four]
    simp only [List.length_cons, List.length_nil]
    omega
theorem bigs_a {l : List Int} {H : AHeap} {K : AV → AHeap → Prop} (hl : l.length ≤ 100000) (h : K (.str (B (fours l))) H) : (ACalls Tryz.prog) 88 [.imm 1 (l.map (.int .i64))] H K := by
  refine acalls_go mo t88 (fun hs hu => ?_)
  simp only [c88, List.length_map, go_sem, Nat.reduceLeDiff, Nat.reduceAdd, Nat.reduceSub, Nat.reduceMul, Nat.reduceLT, Int.reduceLT, Int.reduceLE, Int.reduceAdd, Int.reduceSub, Int.reduceMul, Int.reduceToNat, Int.reduceNeg, Int.reduceEq, Nat.reducePow, Int.reducePow, Nat.reduceEqDiff, decide_true, decide_false, reduceIte, reduceCtorEq, Int.reduceBEq, Int.reduceBNe, bne_self_eq_false, Int.cast_ofNat_Int, Bool.not_true, Bool.not_false, IntKind.bits]
  refine go_loop mono (σ := Nat) (fun i => [.imm 1 (l.map (.int .i64)), .top, .str (B []), slv (H.next + 0) 4 1 i, .top, .top, .imm 1 (l.map (.int .i64)), .int .i64 (l.length : Int), .int .i64 (i : Int), .top, .top, .top, .top, .top, .top, .top, .top, .top, .top, .top, .top, .top, .top, .top, .top, .top, .top, .top, .top])
      (fun i => hp H (slh 5 i ((fours (l.take i)).map byteV))) (fun i => i ≤ l.length) (fun i => l.length - i) 0 ?_ rfl (by simp) (fun i hi J hJ => ?_)
  · simp only [slv]
    repeat first | exact forget_nil | apply forget_keep | apply forget_top
  simp only [go_sem, Nat.reduceLeDiff, Nat.reduceAdd, Nat.reduceSub, Nat.reduceMul, Nat.reduceLT, Int.reduceLT, Int.reduceLE, Int.reduceAdd, Int.reduceSub, Int.reduceMul, Int.reduceToNat, Int.reduceNeg, Int.reduceEq, Nat.reducePow, Int.reducePow, Nat.reduceEqDiff, decide_true, decide_false, reduceIte, reduceCtorEq, Int.reduceBEq, Int.reduceBNe, bne_self_eq_false, Int.cast_ofNat_Int, Bool.not_true, Bool.not_false, IntKind.bits]
  refine cnd_split (fun h1 => ?_) (fun h1 => ?_)
  · have hi' : i < l.length := by simpa using h1
    have hx : (l.map (AV.int .i64))[i]? = some (.int .i64 l[i]) := by rw [List.getElem?_map, List.getElem?_eq_getElem hi']; rfl
    simp (disch := omega) only [hx, shr_i64, byte_wrap, go_sem, Nat.reduceLeDiff, Nat.reduceAdd, Nat.reduceSub, Nat.reduceMul, Nat.reduceLT, Int.reduceLT, Int.reduceLE, Int.reduceAdd, Int.reduceSub, Int.reduceMul, Int.reduceToNat, Int.reduceNeg, Int.reduceEq, Nat.reducePow, Int.reducePow, Nat.reduceEqDiff, decide_true, decide_false, reduceIte, reduceCtorEq, Int.reduceBEq, Int.reduceBNe, bne_self_eq_false, Int.cast_ofNat_Int, Bool.not_true, Bool.not_false, IntKind.bits]
    have hlen : (fours (l.take i)).length = i * 4 := by rw [fours_len, List.length_take]; omega
    have h4 : [byteV (b8 (l[i] / 16777216)), byteV (b8 (l[i] / 65536)), byteV (b8 (l[i] / 256)), byteV (b8 l[i])] = (four l[i]).map byteV := rfl
    rw [h4, aapp_slv0 (m := 4) (k := i) (b := 1) (cs := (fours (l.take i)).map byteV) (xs := (four l[i]).map byteV) (by rw [List.length_map, hlen]; omega) (by simp [cells_byteV]) rfl (by decide) (by simp [cells_byteV, one_byteV]) (by omega)]
    simp only [wnext hi' (by omega : l.length ≤ 9223372036854775807), go_sem, Nat.reduceLeDiff, Nat.reduceAdd, Nat.reduceSub, Nat.reduceMul, Nat.reduceLT, Int.reduceLT, Int.reduceLE, Int.reduceAdd, Int.reduceSub, Int.reduceMul, Int.reduceToNat, Int.reduceNeg, Int.reduceEq, Nat.reducePow, Int.reducePow, Nat.reduceEqDiff, decide_true, decide_false, reduceIte, reduceCtorEq, Int.reduceBEq, Int.reduceBNe, bne_self_eq_false, Int.cast_ofNat_Int, Bool.not_true, Bool.not_false, IntKind.bits]
    have hh : (fours (l.take i)).map byteV ++ ((four l[i]).map byteV).flatMap AV.cells = (fours (l.take (i + 1))).map byteV := by
      rw [List.take_succ_eq_append_getElem hi', fours_snoc, List.map_append, bytes_flat]
    rw [hh]
    refine hJ (i + 1) _ (by omega) (by omega) ?_
    repeat first | exact forget_nil | apply forget_keep | apply forget_top
  · have hi' : i = l.length := by simp at h1; omega
    subst hi'
    rw [List.take_of_length_le (Nat.le_refl _)]
    simp only [b2s_slv (by rw [fours_len] : (fours l).length = l.length * 4), go_sem, Nat.reduceLeDiff, Nat.reduceAdd, Nat.reduceSub, Nat.reduceMul, Nat.reduceLT, Int.reduceLT, Int.reduceLE, Int.reduceAdd, Int.reduceSub, Int.reduceMul, Int.reduceToNat, Int.reduceNeg, Int.reduceEq, Nat.reducePow, Int.reducePow, Nat.reduceEqDiff, decide_true, decide_false, reduceIte, reduceCtorEq, Int.reduceBEq, Int.reduceBNe, bne_self_eq_false, Int.cast_ofNat_Int, Bool.not_true, Bool.not_false, IntKind.bits]
    exact aret_plain hs (.str _) h
theorem rbig_a {n : Int} {H : AHeap} {K : AV → AHeap → Prop} (h : K (.str (B (four n))) H) : (ACalls Tryz.prog) 90 [.int .i64 n] H K := by
  refine acalls_go mo t90 (fun hs hu => ?_)
  have e1 : b8 (IntKind.wrap .u32 ((IntKind.wrap .u32 n).tdiv 16777216)) = b8 (n / 16777216) := by
    unfold b8
    simp only [IntKind.wrap_u32]
    rw [Int.tdiv_eq_ediv_of_nonneg (by omega)]
    congr 2
    omega
  have e2 : b8 ((IntKind.wrap .u32 ((IntKind.wrap .u32 n).tdiv 65536)).tmod 256) = b8 (n / 65536) := by
    unfold b8
    simp only [IntKind.wrap_u32]
    rw [Int.tdiv_eq_ediv_of_nonneg (by omega), Int.tmod_eq_emod_of_nonneg (by omega)]
    congr 2
    omega
  have e3 : b8 ((IntKind.wrap .u32 ((IntKind.wrap .u32 n).tdiv 256)).tmod 256) = b8 (n / 256) := by
    unfold b8
    simp only [IntKind.wrap_u32]
    rw [Int.tdiv_eq_ediv_of_nonneg (by omega), Int.tmod_eq_emod_of_nonneg (by omega)]
    congr 2
    omega
  have e4 : b8 ((IntKind.wrap .u32 n).tmod 256) = b8 n := by
    unfold b8
    simp only [IntKind.wrap_u32]
    rw [Int.tmod_eq_emod_of_nonneg (by omega)]
    congr 2
    omega
  simp only [c90, byte_wrap, e1, e2, e3, e4, go_sem, Nat.reduceLeDiff, Nat.reduceAdd, Nat.reduceSub, Nat.reduceMul, Nat.reduceLT, Int.reduceLT, Int.reduceLE, Int.reduceAdd, Int.reduceSub, Int.reduceMul, Int.reduceToNat, Int.reduceNeg, Int.reduceEq, Nat.reducePow, Int.reducePow, Nat.reduceEqDiff, decide_true, decide_false, reduceIte, reduceCtorEq, Int.reduceBEq, Int.reduceBNe, bne_self_eq_false, Int.cast_ofNat_Int, Bool.not_true, Bool.not_false, IntKind.bits]
  have := b2s_imm (hp H []) (four n)
  simp only [four, List.map_cons, List.map_nil] at this
  simp only [this, go_sem, Nat.reduceLeDiff, Nat.reduceAdd, Nat.reduceSub, Nat.reduceMul, Nat.reduceLT, Int.reduceLT, Int.reduceLE, Int.reduceAdd, Int.reduceSub, Int.reduceMul, Int.reduceToNat, Int.reduceNeg, Int.reduceEq, Nat.reducePow, Int.reducePow, Nat.reduceEqDiff, decide_true, decide_false, reduceIte, reduceCtorEq, Int.reduceBEq, Int.reduceBNe, bne_self_eq_false, Int.cast_ofNat_Int, Bool.not_true, Bool.not_false, IntKind.bits]
  exact aret_plain hs (.str _) h
theorem rbigs_a {l : List Int} {H : AHeap} {K : AV → AHeap → Prop} (hl : l.length ≤ 100000) (h : K (.str (B (fours l))) H) : (ACalls Tryz.prog) 91 [.imm 1 (l.map (.int .i64))] H K := by
  refine acalls_go mo t91 (fun hs hu => ?_)
  simp only [c91, List.length_map, go_sem, Nat.reduceLeDiff, Nat.reduceAdd, Nat.reduceSub, Nat.reduceMul, Nat.reduceLT, Int.reduceLT, Int.reduceLE, Int.reduceAdd, Int.reduceSub, Int.reduceMul, Int.reduceToNat, Int.reduceNeg, Int.reduceEq, Nat.reducePow, Int.reducePow, Nat.reduceEqDiff, decide_true, decide_false, reduceIte, reduceCtorEq, Int.reduceBEq, Int.reduceBNe, bne_self_eq_false, Int.cast_ofNat_Int, Bool.not_true, Bool.not_false, IntKind.bits]
  refine go_loop mono (σ := Nat) (fun i => [.imm 1 (l.map (.int .i64)), .top, .str (B []), .str (B (fours (l.take i))), .int .i64 (i : Int), .top, .top, .top, .top, .top, .top, .top, .top, .top, .top, .top, .top, .top, .top])
      (fun i => hp H []) (fun i => i ≤ l.length) (fun i => l.length - i) 0 ?_ rfl (by simp) (fun i hi J hJ => ?_)
  · simp only [List.take_zero, show fours [] = [] from rfl]
    repeat first | exact forget_nil | apply forget_keep | apply forget_top
  simp only [List.length_map, go_sem, Nat.reduceLeDiff, Nat.reduceAdd, Nat.reduceSub, Nat.reduceMul, Nat.reduceLT, Int.reduceLT, Int.reduceLE, Int.reduceAdd, Int.reduceSub, Int.reduceMul, Int.reduceToNat, Int.reduceNeg, Int.reduceEq, Nat.reducePow, Int.reducePow, Nat.reduceEqDiff, decide_true, decide_false, reduceIte, reduceCtorEq, Int.reduceBEq, Int.reduceBNe, bne_self_eq_false, Int.cast_ofNat_Int, Bool.not_true, Bool.not_false, IntKind.bits]
  refine cnd_split (fun h1 => ?_) (fun h1 => ?_)
  · have hi' : i < l.length := by simpa using h1
    have hx : (l.map (AV.int .i64))[i]? = some (.int .i64 l[i]) := by rw [List.getElem?_map, List.getElem?_eq_getElem hi']; rfl
    simp (disch := omega) only [hx, go_sem, Nat.reduceLeDiff, Nat.reduceAdd, Nat.reduceSub, Nat.reduceMul, Nat.reduceLT, Int.reduceLT, Int.reduceLE, Int.reduceAdd, Int.reduceSub, Int.reduceMul, Int.reduceToNat, Int.reduceNeg, Int.reduceEq, Nat.reducePow, Int.reducePow, Nat.reduceEqDiff, decide_true, decide_false, reduceIte, reduceCtorEq, Int.reduceBEq, Int.reduceBNe, bne_self_eq_false, Int.cast_ofNat_Int, Bool.not_true, Bool.not_false, IntKind.bits]
    refine rbig_a ?_
    have hlen : (fours (l.take i)).length = i * 4 := by rw [fours_len, List.length_take]; omega
    have hsz : (fours (l.take i)).length + (four l[i]).length ≤ 9223372036854775807 := by rw [hlen]; simp [four]; omega
    simp only [wnext hi' (by omega : l.length ≤ 9223372036854775807), B_size, hsz, B_app, ← fours_snoc, ← List.take_succ_eq_append_getElem hi', go_sem, Nat.reduceLeDiff, Nat.reduceAdd, Nat.reduceSub, Nat.reduceMul, Nat.reduceLT, Int.reduceLT, Int.reduceLE, Int.reduceAdd, Int.reduceSub, Int.reduceMul, Int.reduceToNat, Int.reduceNeg, Int.reduceEq, Nat.reducePow, Int.reducePow, Nat.reduceEqDiff, decide_true, decide_false, reduceIte, reduceCtorEq, Int.reduceBEq, Int.reduceBNe, bne_self_eq_false, Int.cast_ofNat_Int, Bool.not_true, Bool.not_false, IntKind.bits]
    refine hJ (i + 1) _ (by omega) (by omega) ?_
    repeat first | exact forget_nil | apply forget_keep | apply forget_top
  · have hi' : i = l.length := by simp at h1; omega
    subst hi'
    rw [List.take_of_length_le (Nat.le_refl _)]
    simp only [go_sem, Nat.reduceLeDiff, Nat.reduceAdd, Nat.reduceSub, Nat.reduceMul, Nat.reduceLT, Int.reduceLT, Int.reduceLE, Int.reduceAdd, Int.reduceSub, Int.reduceMul, Int.reduceToNat, Int.reduceNeg, Int.reduceEq, Nat.reducePow, Int.reducePow, Nat.reduceEqDiff, decide_true, decide_false, reduceIte, reduceCtorEq, Int.reduceBEq, Int.reduceBNe, bne_self_eq_false, Int.cast_ofNat_Int, Bool.not_true, Bool.not_false, IntKind.bits]
    exact aret_plain hs (.str _) h
end Go.Proofs.YtmdgjfadbhenjaaGreatDoor.AL
/- Builders: what their functions do in any program that bears them (after the shelf's own walks), over worlds of which only the builder's cells are told. -/
namespace Go.Proofs.YtmdgjfadbhenjaaGreatDoor.AL
open Go Go.Proofs Go.Shelf Go.RowKit
section
variable {P : Program} {ρ : Ren}
end
end Go.Proofs.YtmdgjfadbhenjaaGreatDoor.AL
/- The code of builders, told. -/
namespace Go.Proofs.YtmdgjfadbhenjaaGreatDoor.AL
open Go Go.Proofs
end Go.Proofs.YtmdgjfadbhenjaaGreatDoor.AL
/- Builders told: a row of two cells, of which the second is the bytes so far. -/
set_option linter.unusedVariables false
set_option linter.unusedSimpArgs false
set_option maxRecDepth 100000
set_option maxHeartbeats 16000000
namespace Go.Proofs
open Go.Shelf
shelf_lay Lays.n169 Nm 169 at Tryz as Tryz.lays169
namespace YtmdgjfadbhenjaaGreatDoor.AL
open Go Go.RowKit
attribute [local go_sem] go_seq go_skip go_region go_regionN go_fregion rgF_some go_cond go_block go_exit go_ret nxt_nil nxt_code nxt_blk nxt_cut leave_nil leave_code leave_cut leave_blk rtn_nil rtn_code rtn_blk rtn_cut cnd_t cnd_f rgn_nil rgY_some rgY_none rgH_some rgP_some retTo_is rgV_func grd_und grd_tt grd_ff grd_tf grd_ft rgn_q rgn_alloc rgn_box rgn_store rgn_lit rgn_litw rgn_litc litCells_nil litCells_cons rgn_app rgn_copy rgn_mk rgn_s2b rgn_call rgn_callv rgn_stop rgn_slice3 aslice3 rgn_slice3l aslice3l rgn_appz rgn_clear rgn_range rgn_next arange acap rgn_put rgn_mkmap rgn_lookup rgn_mapup alookup_nilm alookup_map amapup_map afound_ok afound_no rgn_c rgn_cv qclV_func aloadr rgn_guard post_ret post_normal retY_some ares aresL ares1 AX.ev aput List.getD_cons_zero List.getD_cons_succ List.set_cons_zero List.set_cons_succ List.map_cons List.map_nil aq abin aint astr abeq aconv asame aextract alenS alenL_nils alenL_emp alenL_imm alenL_wr alenL_wc aun apart aload afieldAddr afield aidxSl_wr aidxSl_wc aidxSl_imm aidxPt aidxStr aidxArr abound asliceStr asliceSl asliceArr abest anonil afill astore acells_nils acells_emp acells_imm acells_wr acells_wc acells_str acopy litAll amk as2b anil nilOf aseq aeqs aeqv fits fit1 hp_next hp_push hp_get hp_set List.length_cons List.length_nil List.getElem?_cons_zero List.getElem?_cons_succ List.cons_append List.nil_append List.append_nil List.take_succ_cons List.take_zero List.drop_succ_cons List.drop_zero List.all_cons List.all_nil Option.map_some Option.some.injEq Bool.and_true Bool.true_and Bool.false_eq_true if_true if_false ite_true ite_false Bool.and_self true_and and_true and_self Nat.zero_add Nat.le_refl Int.toNat_natCast beq_self_eq_true eq_self tops_zero tops_succ Int.natCast_nonneg List.take_nil List.drop_nil Option.map_none flat_bool one_bool cells_bool flat_int one_int cells_int flat_str one_str cells_str flat_nilp one_nilp cells_nilp flat_ptr one_ptr cells_ptr flat_nils one_nils cells_nils flat_imm one_imm cells_imm flat_wr one_wr cells_wr flat_wc one_wc cells_wc flat_func one_func cells_func flat_nilf one_nilf cells_nilf flat_map one_map cells_map flat_nilm one_nilm cells_nilm flat_iface one_iface cells_iface flat_nili one_nili cells_nili flat_rd one_rd cells_rd flat_emp one_emp cells_emp flat_byteV one_byteV cells_byteV flat_agg cells_agg one_agg B_size B_list B_ext B_toList B_app List.take_length Int.le_refl
section
variable {g : Ghost} {w w' : World} {H : AHeap}
end
section
variable {H : AHeap} {K : AV → AHeap → Prop} {id : Nat} {p v : AV}
end
end YtmdgjfadbhenjaaGreatDoor.AL
end Go.Proofs

/- Builders told: what is written to them, and what they hold. -/
set_option linter.unusedVariables false
set_option linter.unusedSimpArgs false
set_option maxRecDepth 100000
set_option maxHeartbeats 16000000
namespace Go.Proofs.YtmdgjfadbhenjaaGreatDoor.AL
open Go Go.Proofs
attribute [local go_sem] go_seq go_skip go_region go_regionN go_fregion rgF_some go_cond go_block go_exit go_ret nxt_nil nxt_code nxt_blk nxt_cut leave_nil leave_code leave_cut leave_blk rtn_nil rtn_code rtn_blk rtn_cut cnd_t cnd_f rgn_nil rgY_some rgY_none rgH_some rgP_some retTo_is rgV_func grd_und grd_tt grd_ff grd_tf grd_ft rgn_q rgn_alloc rgn_box rgn_store rgn_lit rgn_litw rgn_litc litCells_nil litCells_cons rgn_app rgn_copy rgn_mk rgn_s2b rgn_call rgn_callv rgn_stop rgn_slice3 aslice3 rgn_slice3l aslice3l rgn_appz rgn_clear rgn_range rgn_next arange acap rgn_put rgn_mkmap rgn_lookup rgn_mapup alookup_nilm alookup_map amapup_map afound_ok afound_no rgn_c rgn_cv qclV_func aloadr rgn_guard post_ret post_normal retY_some ares aresL ares1 AX.ev aput List.getD_cons_zero List.getD_cons_succ List.set_cons_zero List.set_cons_succ List.map_cons List.map_nil aq abin aint astr abeq aconv asame aextract alenS alenL_nils alenL_emp alenL_imm alenL_wr alenL_wc aun apart aload afieldAddr afield aidxSl_wr aidxSl_wc aidxSl_imm aidxPt aidxStr aidxArr abound asliceStr asliceSl asliceArr abest anonil afill astore acells_nils acells_emp acells_imm acells_wr acells_wc acells_str acopy litAll amk as2b anil nilOf aseq aeqs aeqv fits fit1 hp_next hp_push hp_get hp_set List.length_cons List.length_nil List.getElem?_cons_zero List.getElem?_cons_succ List.cons_append List.nil_append List.append_nil List.take_succ_cons List.take_zero List.drop_succ_cons List.drop_zero List.all_cons List.all_nil Option.map_some Option.some.injEq Bool.and_true Bool.true_and Bool.false_eq_true if_true if_false ite_true ite_false Bool.and_self true_and and_true and_self Nat.zero_add Nat.le_refl Int.toNat_natCast beq_self_eq_true eq_self tops_zero tops_succ Int.natCast_nonneg List.take_nil List.drop_nil Option.map_none flat_bool one_bool cells_bool flat_int one_int cells_int flat_str one_str cells_str flat_nilp one_nilp cells_nilp flat_ptr one_ptr cells_ptr flat_nils one_nils cells_nils flat_imm one_imm cells_imm flat_wr one_wr cells_wr flat_wc one_wc cells_wc flat_func one_func cells_func flat_nilf one_nilf cells_nilf flat_map one_map cells_map flat_nilm one_nilm cells_nilm flat_iface one_iface cells_iface flat_nili one_nili cells_nili flat_rd one_rd cells_rd flat_emp one_emp cells_emp flat_byteV one_byteV cells_byteV flat_agg cells_agg one_agg B_size B_list B_ext B_toList B_app List.take_length Int.le_refl
section
variable {H : AHeap} {K : AV → AHeap → Prop} {id n0 : Nat} {l s : List UInt8}
end
/-- The texts of a value. -/
def asTexts (v : List UInt8) : Option (List (List UInt8)) := if v ≠ [] ∧ v.getD (v.length - 1) 0 = 0 then some (splitA 0 [] (v.take (v.length - 1))) else none
def textsV (k : Nat) : Option (List (List UInt8)) → AV
  | some ls => .tup [slA k 1 (ls.map strV), .bool true]
  | none => .tup [.nils, .bool false]
theorem textsV_s (k : Nat) (ls : List (List UInt8)) : textsV k (some ls) = .tup [slA k 1 (ls.map strV), .bool true] := rfl
theorem textsV_n (k : Nat) : textsV k none = .tup [.nils, .bool false] := rfl
def asText (v : List UInt8) : Option (List UInt8) := match asTexts v with
  | some [t] => some t
  | _ => none
def textV : Option (List UInt8) → AV
  | some t => .tup [.str (B t), .bool true]
  | none => .tup [.str (B []), .bool false]
theorem last_drop {v : List UInt8} (h : v ≠ []) : v.drop (v.length - 1) = [v.getD (v.length - 1) 0] := by
  have hl := List.length_pos_iff.2 h
  rw [List.drop_eq_getElem_cons (by omega), List.getD_eq_getElem?_getD, List.getElem?_eq_getElem (by omega), List.drop_of_length_le (by omega)]
  rfl
section
variable {H : AHeap} {K : AV → AHeap → Prop}
theorem int_at {ls : List Int} {i : Nat} (h : i < ls.length) : (ls.map (AV.int .i64))[i]? = some (.int .i64 (ls.getD i 0)) := by
  rw [List.getElem?_map, List.getElem?_eq_getElem h, List.getD_eq_getElem?_getD, List.getElem?_eq_getElem h]
  rfl
theorem asTexts_a {v : List UInt8} (hl : v.length < 1073741824) (h : ∀ k, K (textsV k (asTexts v)) H) : (ACalls Tryz.prog) 179 [.str (B v)] H K := by
  refine acalls_go mo t179 (fun hs hu => ?_)
  simp only [c179, go_sem, Nat.reduceLeDiff, Nat.reduceAdd, Nat.reduceSub, Nat.reduceMul, Nat.reduceLT, Int.reduceLT, Int.reduceLE, Int.reduceAdd, Int.reduceSub, Int.reduceMul, Int.reduceToNat, Int.reduceNeg, Int.reduceEq, Nat.reducePow, Int.reducePow, Nat.reduceEqDiff, decide_true, decide_false, reduceIte, reduceCtorEq, Int.reduceBEq, Int.reduceBNe, bne_self_eq_false, Int.cast_ofNat_Int, Bool.not_true, Bool.not_false, IntKind.bits]
  refine cutSuf_a (by omega) (by decide) ?_
  rw [show ([0] : List UInt8).length = 1 from rfl]
  unfold asTexts at h
  by_cases h1 : v ≠ [] ∧ v.getD (v.length - 1) 0 = 0
  · have h2 : 1 ≤ v.length ∧ v.drop (v.length - 1) = [0] := ⟨List.length_pos_iff.2 h1.1, by rw [last_drop h1.1, h1.2]⟩
    rw [if_pos h1] at h
    rw [if_pos h2]
    refine stp0 ?_
    refine split_a (by rw [List.length_take]; omega) (fun k => ?_)
    have hx := h k
    rw [textsV_s] at hx
    refine stp0 ?_
    exact aret_u hs (hx)
  · have h2 : ¬ (1 ≤ v.length ∧ v.drop (v.length - 1) = [0]) := fun q => h1 (by
      have hv : v ≠ [] := List.length_pos_iff.1 q.1
      refine ⟨hv, ?_⟩
      rw [last_drop hv] at q
      simpa using q.2)
    rw [if_neg h1] at h
    rw [if_neg h2]
    have hx := h 0
    rw [textsV_n] at hx
    refine stp0 ?_
    exact aret_u hs (hx)
theorem asText_a {v : List UInt8} (hl : v.length < 1073741824) (h : K (textV (asText v)) H) : (ACalls Tryz.prog) 136 [.str (B v)] H K := by
  refine acalls_go mo t136 (fun hs hu => ?_)
  simp only [c136, go_sem, Nat.reduceLeDiff, Nat.reduceAdd, Nat.reduceSub, Nat.reduceMul, Nat.reduceLT, Int.reduceLT, Int.reduceLE, Int.reduceAdd, Int.reduceSub, Int.reduceMul, Int.reduceToNat, Int.reduceNeg, Int.reduceEq, Nat.reducePow, Int.reducePow, Nat.reduceEqDiff, decide_true, decide_false, reduceIte, reduceCtorEq, Int.reduceBEq, Int.reduceBNe, bne_self_eq_false, Int.cast_ofNat_Int, Bool.not_true, Bool.not_false, IntKind.bits]
  refine asTexts_a hl (fun k => ?_)
  unfold asText at h
  cases hm : asTexts v with
  | none =>
    rw [hm] at h
    have h : K (.tup [.str (B []), .bool false]) H := h
    rw [textsV_n]
    refine stp0 ?_
    exact aret_u hs (h)
  | some ls =>
    rw [hm] at h
    rw [textsV_s]
    match ls, h with
    | [], h =>
      have h : K (.tup [.str (B []), .bool false]) H := h
      refine stp0 ?_
      exact aret_u hs (h)
    | [t], h =>
      have h : K (.tup [.str (B t), .bool true]) H := h
      refine stp0 ?_
      exact aret_u hs (h)
    | a :: b :: ls, h =>
      have h : K (.tup [.str (B []), .bool false]) H := h
      have hn : ¬ (a :: b :: ls).length = 1 := by simp
      refine stp hn ?_
      exact aret_u hs (h)
end
section
variable {H : AHeap} {K : AV → AHeap → Prop}
end
theorem big_four (n : Int) : big (four n) = (n % 4294967296).toNat := by
  have h := four_get (l := four n) (Nat.le_refl 4)
  simp only [four, List.getElem_cons_zero, List.getElem_cons_succ, List.take_succ_cons, List.take_zero] at h ⊢
  rw [h]
  have e : ∀ m : Int, (b8 m).toNat = (m % 256).toNat := fun m => by have := b8_num m; omega
  rw [e, e, e, e]
  omega
theorem words_fours : ∀ l : List Int, words l.length (fours l) = l.map fun n => n % 4294967296
  | [] => rfl
  | n :: l => by
    have e : fours (n :: l) = four n ++ fours l := by simp [fours]
    rw [List.length_cons, words, e, List.take_append_of_le_length (by simp [four]), List.drop_left' (by simp [four]), words_fours l, List.map_cons]
    rw [show (four n).take 4 = four n from rfl, big_four]
    congr 1
    omega
section
variable {H : AHeap} {K : AV → AHeap → Prop}
def asNum (v : List UInt8) : AV := if v.length = 4 then .tup [.int .i64 (big v : Int), .bool true] else .tup [.int .i64 0, .bool false]
theorem asNum_a {v : List UInt8} (hl : v.length ≤ 100000) (h : K (asNum v) H) : (ACalls Tryz.prog) 122 [.str (B v)] H K := by
  refine acalls_go mo t122 (fun hs hu => ?_)
  unfold asNum at h
  simp only [c122, go_sem, Nat.reduceLeDiff, Nat.reduceAdd, Nat.reduceSub, Nat.reduceMul, Nat.reduceLT, Int.reduceLT, Int.reduceLE, Int.reduceAdd, Int.reduceSub, Int.reduceMul, Int.reduceToNat, Int.reduceNeg, Int.reduceEq, Nat.reducePow, Int.reducePow, Nat.reduceEqDiff, decide_true, decide_false, reduceIte, reduceCtorEq, Int.reduceBEq, Int.reduceBNe, bne_self_eq_false, Int.cast_ofNat_Int, Bool.not_true, Bool.not_false, IntKind.bits]
  by_cases h1 : v.length = 4
  · rw [if_pos h1] at h
    refine stp h1 ?_
    refine fromBig_a ?_
    unfold fromBig
    have e : v.take 4 = v := List.take_of_length_le (by omega)
    refine stp (And.intro h1 e) ?_
    exact aret_u hs (h)
  · rw [if_neg h1] at h
    refine stp h1 ?_
    exact aret_u hs (h)
theorem textV_is (x : Option (List UInt8)) : textV x = .tup [.str (B (x.getD [])), .bool x.isSome] := by cases x <;> rfl
end
theorem TrOk_0 : TrOk tr0 := .mk [] 0 [] 0 [] (by simp) (by simp) (by simp) (by simp) (by simp)
section
variable {H : AHeap} {K : AV → AHeap → Prop}
theorem nindex_a {k : Nat} {ls : List Tr} {p : Tr → Bool} {f : Nat} {fs cs : List AV} (hn : ls.length ≤ 9223372036854775807)
    (hpp : ∀ x ∈ ls, ∀ K : AV → AHeap → Prop, K (.bool (p x)) H → (ACalls Tryz.prog) f (fs ++ [x.V] ++ cs) H K) (h : K (.int .i64 (ixOf p ls 0)) H) :
    (ACalls Tryz.prog) 147 [slA k 3 (ls.map Tr.V), .func (.func f) fs cs] H K := by
  refine acalls_go mo t147 (fun hs hu => ?_)
  simp only [c147, go_sem, Nat.reduceLeDiff, Nat.reduceAdd, Nat.reduceSub, Nat.reduceMul, Nat.reduceLT, Int.reduceLT, Int.reduceLE, Int.reduceAdd, Int.reduceSub, Int.reduceMul, Int.reduceToNat, Int.reduceNeg, Int.reduceEq, Nat.reducePow, Int.reducePow, Nat.reduceEqDiff, decide_true, decide_false, reduceIte, reduceCtorEq, Int.reduceBEq, Int.reduceBNe, bne_self_eq_false, Int.cast_ofNat_Int, Bool.not_true, Bool.not_false, IntKind.bits]
  refine stp0 ?_
  refine go_loopS mono (σ := Nat) (fun i => [(8, .int .i64 (i : Int))]) (fun i => hp H []) (fun i => i ≤ ls.length ∧ ixOf p (ls.drop i) i = ixOf p ls 0) (fun i => ls.length - i) 0 ?_ rfl ⟨by omega, rfl⟩ (fun i hi J hJ => ?_)
  · exact fgt
  obtain ⟨hil, hid⟩ := hi
  simp only [blurR_nil, blurR_some, blurR_none, blurC_region, blurC_regionN, blurC_fregion, blurT_nil, blurT_cons, blurC_seq, blurC_both, blurC_cond, blurC_block, blurC_loop, blurC_skip, blurC_exit, blurC_ret, tellS_nil, tellS_cons, List.set_cons_zero, List.set_cons_succ, tops_zero, tops_succ]
  by_cases h1 : i < ls.length
  · have ha := tr_at h1
    have hm := tr_mem h1
    rw [ixOf_drop p ls i tr0 h1] at hid
    generalize ls.getD i tr0 = x at *
    have hVc := Tr.V_cells x
    have hVi := Tr.V_is x
    refine stp (And.intro ha hVc) ?_
    rw [← hVi, hp_nil]
    refine hpp _ hm _ ?_
    rw [← hp_nil (H := H)]
    cases h2 : p x with
    | true =>
      rw [if_pos h2] at hid
      rw [← hid] at h
      refine stp0 ?_
      exact aret_u hs (h)
    | false =>
      rw [if_neg (by rw [h2]; exact Bool.false_ne_true)] at hid
      refine stp0 ?_
      exact hJ (i + 1) _ ⟨h1, hid⟩ (by omega) fgt
  · rw [List.drop_of_length_le (by omega)] at hid
    rw [← hid] at h
    refine stp0 ?_
    exact aret_u hs (h)
theorem prop_mem {l : List (List UInt8 × List UInt8)} {i : Nat} (h : i < l.length) : l.getD i ([], []) ∈ l := by
  rw [List.getD_eq_getElem?_getD, List.getElem?_eq_getElem h]
  exact List.getElem_mem h
theorem prindex_a {k : Nat} {ls : List (List UInt8 × List UInt8)} {p : List UInt8 × List UInt8 → Bool} {f : Nat} {fs cs : List AV} (hn : ls.length ≤ 9223372036854775807)
    (hpp : ∀ x ∈ ls, ∀ K : AV → AHeap → Prop, K (.bool (p x)) H → (ACalls Tryz.prog) f (fs ++ [propV x] ++ cs) H K) (h : K (.int .i64 (ixOf p ls 0)) H) :
    (ACalls Tryz.prog) 124 [slA k 2 (ls.map propV), .func (.func f) fs cs] H K := by
  refine acalls_go mo t124 (fun hs hu => ?_)
  simp only [c124, go_sem, Nat.reduceLeDiff, Nat.reduceAdd, Nat.reduceSub, Nat.reduceMul, Nat.reduceLT, Int.reduceLT, Int.reduceLE, Int.reduceAdd, Int.reduceSub, Int.reduceMul, Int.reduceToNat, Int.reduceNeg, Int.reduceEq, Nat.reducePow, Int.reducePow, Nat.reduceEqDiff, decide_true, decide_false, reduceIte, reduceCtorEq, Int.reduceBEq, Int.reduceBNe, bne_self_eq_false, Int.cast_ofNat_Int, Bool.not_true, Bool.not_false, IntKind.bits]
  refine stp0 ?_
  refine go_loopS mono (σ := Nat) (fun i => [(8, .int .i64 (i : Int))]) (fun i => hp H []) (fun i => i ≤ ls.length ∧ ixOf p (ls.drop i) i = ixOf p ls 0) (fun i => ls.length - i) 0 ?_ rfl ⟨by omega, rfl⟩ (fun i hi J hJ => ?_)
  · exact fgt
  obtain ⟨hil, hid⟩ := hi
  simp only [blurR_nil, blurR_some, blurR_none, blurC_region, blurC_regionN, blurC_fregion, blurT_nil, blurT_cons, blurC_seq, blurC_both, blurC_cond, blurC_block, blurC_loop, blurC_skip, blurC_exit, blurC_ret, tellS_nil, tellS_cons, List.set_cons_zero, List.set_cons_succ, tops_zero, tops_succ]
  by_cases h1 : i < ls.length
  · have ha := prop_at h1
    have hm := prop_mem h1
    rw [ixOf_drop p ls i ([], []) h1] at hid
    generalize ls.getD i ([], []) = x at *
    have hVi : propV x = .agg [.str (B x.1), .str (B x.2)] := rfl
    refine stp (And.intro ha @propV_cells) ?_
    rw [← hVi, hp_nil]
    refine hpp _ hm _ ?_
    rw [← hp_nil (H := H)]
    cases h2 : p x with
    | true =>
      rw [if_pos h2] at hid
      rw [← hid] at h
      refine stp0 ?_
      exact aret_u hs (h)
    | false =>
      rw [if_neg (by rw [h2]; exact Bool.false_ne_true)] at hid
      refine stp0 ?_
      exact hJ (i + 1) _ ⟨h1, hid⟩ (by omega) fgt
  · rw [List.drop_of_length_le (by omega)] at hid
    rw [← hid] at h
    refine stp0 ?_
    exact aret_u hs (h)
theorem kid1_a {id : Nat} {n : List UInt8} {x : Tr} (hg : H.get id = some (.row 9 0 [.str (B n)])) (h : K (.bool (nameIs n x)) H) : (ACalls Tryz.prog) 148 [x.V, .ptr id 0 0] H K := by
  refine acalls_go mo t148 (fun hs hu => ?_)
  have hlt := H.lt hg
  unfold nameIs at h
  simp only [c148, Tr.V_is, go_sem, Nat.reduceLeDiff, Nat.reduceAdd, Nat.reduceSub, Nat.reduceMul, Nat.reduceLT, Int.reduceLT, Int.reduceLE, Int.reduceAdd, Int.reduceSub, Int.reduceMul, Int.reduceToNat, Int.reduceNeg, Int.reduceEq, Nat.reducePow, Int.reducePow, Nat.reduceEqDiff, decide_true, decide_false, reduceIte, reduceCtorEq, Int.reduceBEq, Int.reduceBNe, bne_self_eq_false, Int.cast_ofNat_Int, Bool.not_true, Bool.not_false, IntKind.bits]
  refine stp (And.intro hg @B_toList) ?_
  exact aret_u hs (h)
theorem value1_a {id : Nat} {n : List UInt8} {x : List UInt8 × List UInt8} (hg : H.get id = some (.row 9 0 [.str (B n)])) (h : K (.bool (decide (x.1 = n))) H) : (ACalls Tryz.prog) 125 [propV x, .ptr id 0 0] H K := by
  refine acalls_go mo t125 (fun hs hu => ?_)
  have hlt := H.lt hg
  simp only [c125, propV, go_sem, Nat.reduceLeDiff, Nat.reduceAdd, Nat.reduceSub, Nat.reduceMul, Nat.reduceLT, Int.reduceLT, Int.reduceLE, Int.reduceAdd, Int.reduceSub, Int.reduceMul, Int.reduceToNat, Int.reduceNeg, Int.reduceEq, Nat.reducePow, Int.reducePow, Nat.reduceEqDiff, decide_true, decide_false, reduceIte, reduceCtorEq, Int.reduceBEq, Int.reduceBNe, bne_self_eq_false, Int.cast_ofNat_Int, Bool.not_true, Bool.not_false, IntKind.bits]
  refine stp (And.intro hg @B_toList) ?_
  exact aret_u hs (h)
theorem foundV_s (k : Tr) : foundV (some k) = .tup [.agg [.str (B k.name), slA k.kp 2 (k.props.map propV), slA k.kk 3 (k.kids.map Tr.V)], .bool true] := by
  rw [← Tr.V_is k]
  rfl
theorem foundV_n : foundV none = .tup [.agg [.str (B []), .nils, .nils], .bool false] := rfl
theorem Kid_a {t : Tr} (ho : TrOk t) {n : List UInt8} (h : K (foundV (kidT t n)) H) : (ACalls Tryz.prog) 96 [t.V, .str (B n)] H K := by
  refine acalls_go mo t96 (fun hs hu => ?_)
  have hkl := ho.k
  unfold kidT at h
  simp only [c96, Tr.V_is, go_sem, Nat.reduceLeDiff, Nat.reduceAdd, Nat.reduceSub, Nat.reduceMul, Nat.reduceLT, Int.reduceLT, Int.reduceLE, Int.reduceAdd, Int.reduceSub, Int.reduceMul, Int.reduceToNat, Int.reduceNeg, Int.reduceEq, Nat.reducePow, Int.reducePow, Nat.reduceEqDiff, decide_true, decide_false, reduceIte, reduceCtorEq, Int.reduceBEq, Int.reduceBNe, bne_self_eq_false, Int.cast_ofNat_Int, Bool.not_true, Bool.not_false, IntKind.bits]
  refine nindex_a (ls := t.kids) (p := nameIs n) hkl (fun x hx K hk => kid1_a (hp_get _ _ 1) hk) ?_
  rcases ixOf_find (nameIs n) tr0 t.kids 0 with ⟨h1, h2⟩ | ⟨j, h1, h2, h3⟩
  · rw [h1, foundV_n] at h
    rw [h2]
    refine stp @trRow_is ?_
    exact aret_plain hs (by simp only [u_top, u_bool, u_int, u_str, u_nilp, u_nils, u_nilf, u_nilm, u_nili, u_emp, u_byteV, u_ptr, u_wr, u_wc, u_agg, u_tup, u_rd, u_imm, u_func, u_nil, u_cons, u_app, uc_nil, uc_cons, uc_app, u_bytes, uc_bytes, u_ints, uc_ints, cells_bool, cells_int, cells_str, cells_agg, cells_ptr, cells_nils, cells_imm, cells_wr, cells_wc, cells_nilp, cells_nilf, cells_nilm, cells_rd, cells_emp, cells_byteV, cells_func, and_self, and_true, true_and, u_slA, uc_strs, cells_slA, strV_is]) h
  · have ha := tr_at h2
    rw [h3] at h
    rw [h1, Nat.zero_add]
    generalize t.kids.getD j tr0 = x at *
    rw [foundV_s] at h
    have hVc := Tr.V_cells x
    refine stp (And.intro ha hVc) ?_
    refine aret_plain hs ?_ h
    simp only [u_top, u_bool, u_int, u_str, u_nilp, u_nils, u_nilf, u_nilm, u_nili, u_emp, u_byteV, u_ptr, u_wr, u_wc, u_agg, u_tup, u_rd, u_imm, u_func, u_nil, u_cons, u_app, uc_nil, uc_cons, uc_app, u_bytes, uc_bytes, u_ints, uc_ints, cells_bool, cells_int, cells_str, cells_agg, cells_ptr, cells_nils, cells_imm, cells_wr, cells_wc, cells_nilp, cells_nilf, cells_nilm, cells_rd, cells_emp, cells_byteV, cells_func, and_self, and_true, true_and, u_slA, uc_strs, cells_slA, strV_is]
    exact ⟨props_u _ _, kids_u _ _⟩
def valV : Option (List UInt8) → AV
  | some v => .tup [.str (B v), .bool true]
  | none => .tup [.str (B []), .bool false]
theorem valV_is (x : Option (List UInt8)) : valV x = .tup [.str (B (x.getD [])), .bool x.isSome] := by cases x <;> rfl
theorem Value_a {t : Tr} (ho : TrOk t) {n : List UInt8} (h : K (valV (valT t n)) H) : (ACalls Tryz.prog) 75 [t.V, .str (B n)] H K := by
  refine acalls_go mo t75 (fun hs hu => ?_)
  have hkl := ho.p
  unfold valT at h
  simp only [c75, Tr.V_is, go_sem, Nat.reduceLeDiff, Nat.reduceAdd, Nat.reduceSub, Nat.reduceMul, Nat.reduceLT, Int.reduceLT, Int.reduceLE, Int.reduceAdd, Int.reduceSub, Int.reduceMul, Int.reduceToNat, Int.reduceNeg, Int.reduceEq, Nat.reducePow, Int.reducePow, Nat.reduceEqDiff, decide_true, decide_false, reduceIte, reduceCtorEq, Int.reduceBEq, Int.reduceBNe, bne_self_eq_false, Int.cast_ofNat_Int, Bool.not_true, Bool.not_false, IntKind.bits]
  refine prindex_a (ls := t.props) (p := fun p => decide (p.1 = n)) hkl (fun x hx K hk => value1_a (hp_get _ _ 1) hk) ?_
  rcases ixOf_find (fun p : List UInt8 × List UInt8 => decide (p.1 = n)) ([], []) t.props 0 with ⟨h1, h2⟩ | ⟨j, h1, h2, h3⟩
  · rw [h1] at h
    have h : K (.tup [.str (B []), .bool false]) H := h
    rw [h2]
    refine stp0 ?_
    exact aret_u hs (h)
  · have ha := prop_at h2
    rw [h3] at h
    rw [h1, Nat.zero_add]
    generalize t.props.getD j ([], []) = x at *
    have h : K (.tup [.str (B x.2), .bool true]) H := h
    refine stp (And.intro ha @propV_cells) ?_
    exact aret_u hs (h)
theorem Find_a {t : Tr} (ho : TrOk t) {p : List UInt8} (hl : p.length < 1073741824) (h : K (foundV (findT t p)) H) : (ACalls Tryz.prog) 62 [t.V, .str (B p)] H K := by
  refine acalls_go mo t62 (fun hs hu => ?_)
  have hno : findT t p = none → K (.tup [.agg [.str (B []), .nils, .nils], .bool false]) H := fun e => by
    rw [e] at h
    exact h
  have hyes : ∀ k, findT t p = some k → K (.tup [.agg [.str (B k.name), slA k.kp 2 (k.props.map propV), slA k.kk 3 (k.kids.map Tr.V)], .bool true]) H := fun k e => by
    rw [e, foundV_s] at h
    exact h
  clear h
  unfold findT at hno hyes
  simp only [c62, Tr.V_is, go_sem, Nat.reduceLeDiff, Nat.reduceAdd, Nat.reduceSub, Nat.reduceMul, Nat.reduceLT, Int.reduceLT, Int.reduceLE, Int.reduceAdd, Int.reduceSub, Int.reduceMul, Int.reduceToNat, Int.reduceNeg, Int.reduceEq, Nat.reducePow, Int.reducePow, Nat.reduceEqDiff, decide_true, decide_false, reduceIte, reduceCtorEq, Int.reduceBEq, Int.reduceBNe, bne_self_eq_false, Int.cast_ofNat_Int, Bool.not_true, Bool.not_false, IntKind.bits]
  refine Parts_a hl (fun kk => ?_)
  cases hp1 : partsP p with
  | none =>
    rw [hp1] at hno
    have := hno rfl
    rw [partsV_n]
    refine stp0 ?_
    refine go_rounds mono 1 ?_
    simp (maxSteps := 4000000) (disch := (first | omega | (simp only [set_next, List.length_append, List.length_cons, List.length_nil, List.length_take, List.length_drop, List.length_map, List.length_set, List.length_replicate]; omega) | (simp only [set_next, ne_eq, reduceCtorEq, not_false_eq_true]))) only [rnds_succ, go_sem, Nat.reduceLeDiff, Nat.reduceAdd, Nat.reduceSub, Nat.reduceMul, Nat.reduceLT, Int.reduceLT, Int.reduceLE, Int.reduceAdd, Int.reduceSub, Int.reduceMul, Int.reduceToNat, Int.reduceNeg, Int.reduceEq, Nat.reducePow, Int.reducePow, Nat.reduceEqDiff, decide_true, decide_false, reduceIte, reduceCtorEq, Int.reduceBEq, Int.reduceBNe, bne_self_eq_false, Int.cast_ofNat_Int, Bool.not_true, Bool.not_false, IntKind.bits, w_nat, w_lit, w_add, w_addl, w_ladd, w_sub, w_subl, w_lsub, w_mul, w_mull, w_lmul, t_div, t_divl, t_mod, t_modl, i_lt, i_ltl, i_llt, i_le, i_lel, i_lle, i_eq, i_eql, i_leq, Nat.zero_le, d_beq, d_bne, d_bytes, byte_at, Int.toNat_natCast, toNat_lit, decide_eq_true, decide_eq_false, if_pos, if_neg, slA_len, slA_idx, slA_cells, flat_slA, one_slA, cells_slA, map_mid, strV_is, hp_get1, hp_get2, hp_get3, hp_set1, hp_set2, hp_set3, hp_old, hp_sold, set_got, set_set, set_next, set_other, bytesL, bytes_all, List.length_map, aapp_nils, aapp_wr, List.flatMap_cons, List.flatMap_nil, Nat.mul_one]
    exact aret_plain hs (by simp only [u_top, u_bool, u_int, u_str, u_nilp, u_nils, u_nilf, u_nilm, u_nili, u_emp, u_byteV, u_ptr, u_wr, u_wc, u_agg, u_tup, u_rd, u_imm, u_func, u_nil, u_cons, u_app, uc_nil, uc_cons, uc_app, u_bytes, uc_bytes, u_ints, uc_ints, cells_bool, cells_int, cells_str, cells_agg, cells_ptr, cells_nils, cells_imm, cells_wr, cells_wc, cells_nilp, cells_nilf, cells_nilm, cells_rd, cells_emp, cells_byteV, cells_func, and_self, and_true, true_and, u_slA, uc_strs, cells_slA, strV_is]) this
  | some ns =>
    rw [hp1] at hno hyes
    simp only at hno hyes
    have hn8 := partsP_le hp1
    rw [partsV_s]
    refine stp0 ?_
    refine go_loopS mono (σ := Tr × Bool × Nat) (fun z => [(7, .bool z.2.1), (17, .int .i64 (z.2.2 : Int))]) (fun z => hp H [trRow z.1, trRow tr0]) (fun z => TrOk z.1 ∧ z.2.2 ≤ ns.length ∧ (z.2.1 = true → walkTo z.1 (ns.drop z.2.2) = walkTo t ns) ∧ (z.2.1 = false → walkTo t ns = none)) (fun z => ns.length - z.2.2) (t, true, 0) ?_ rfl ⟨ho, Nat.zero_le _, fun _ => rfl, fun e => by cases e⟩ (fun z hz J hJ => ?_)
    · exact fgt
    obtain ⟨cur, ok, i⟩ := z
    obtain ⟨hok, hil, hw1, hw2⟩ := hz
    simp only at hok hil hw1 hw2
    have hr0 : trRow tr0 = .row 25 0 [.str (B []), .nils, .nils] := rfl
    simp only [blurR_nil, blurR_some, blurR_none, blurC_region, blurC_regionN, blurC_fregion, blurT_nil, blurT_cons, blurC_seq, blurC_both, blurC_cond, blurC_block, blurC_loop, blurC_skip, blurC_exit, blurC_ret, tellS_nil, tellS_cons, List.set_cons_zero, List.set_cons_succ, tops_zero, tops_succ]
    by_cases h1 : i < ns.length
    · have ha := strs_at h1
      cases ok with
      | false =>
        refine stp ha ?_
        exact hJ (cur, false, i + 1) _ ⟨hok, h1, fun e => (by cases e), hw2⟩ (by show ns.length - (i + 1) < ns.length - i; omega) fgt
      | true =>
        have hw := hw1 rfl
        have hd : ns.drop i = ns.getD i [] :: ns.drop (i + 1) := by rw [List.drop_eq_getElem_cons h1, List.getD_eq_getElem?_getD, List.getElem?_eq_getElem h1]; rfl
        rw [hd, walkTo] at hw
        generalize ns.getD i [] = n at *
        have hVi := Tr.V_is cur
        simp (maxSteps := 4000000) (disch := (first | omega | (simp only [set_next, List.length_append, List.length_cons, List.length_nil, List.length_take, List.length_drop, List.length_map, List.length_set, List.length_replicate]; omega) | (simp only [set_next, ne_eq, reduceCtorEq, not_false_eq_true]))) only [ha, trRow_is cur, hr0, go_sem, Nat.reduceLeDiff, Nat.reduceAdd, Nat.reduceSub, Nat.reduceMul, Nat.reduceLT, Int.reduceLT, Int.reduceLE, Int.reduceAdd, Int.reduceSub, Int.reduceMul, Int.reduceToNat, Int.reduceNeg, Int.reduceEq, Nat.reducePow, Int.reducePow, Nat.reduceEqDiff, decide_true, decide_false, reduceIte, reduceCtorEq, Int.reduceBEq, Int.reduceBNe, bne_self_eq_false, Int.cast_ofNat_Int, Bool.not_true, Bool.not_false, IntKind.bits, w_nat, w_lit, w_add, w_addl, w_ladd, w_sub, w_subl, w_lsub, w_mul, w_mull, w_lmul, t_div, t_divl, t_mod, t_modl, i_lt, i_ltl, i_llt, i_le, i_lel, i_lle, i_eq, i_eql, i_leq, Nat.zero_le, d_beq, d_bne, d_bytes, byte_at, Int.toNat_natCast, toNat_lit, decide_eq_true, decide_eq_false, if_pos, if_neg, slA_len, slA_idx, slA_cells, flat_slA, one_slA, cells_slA, map_mid, strV_is, hp_get1, hp_get2, hp_get3, hp_set1, hp_set2, hp_set3, hp_old, hp_sold, set_got, set_set, set_next, set_other, bytesL, bytes_all, List.length_map, aapp_nils, aapp_wr, List.flatMap_cons, List.flatMap_nil, Nat.mul_one]
        rw [← hVi]
        refine Kid_a hok ?_
        cases hk : kidT cur n with
        | none =>
          rw [hk] at hw
          rw [foundV_n]
          refine stp0 ?_
          rw [← hr0]
          exact hJ (tr0, false, i + 1) _ ⟨TrOk_0, h1, fun e => (by cases e), fun _ => hw.symm⟩ (by show ns.length - (i + 1) < ns.length - i; omega) fgt
        | some k =>
          rw [hk] at hw
          simp only at hw
          have hko := kidT_ok hok hk
          rw [foundV_s]
          refine stp0 ?_
          rw [← hr0, ← trRow_is]
          exact hJ (k, true, i + 1) _ ⟨hko, h1, fun _ => hw, fun e => by cases e⟩ (by show ns.length - (i + 1) < ns.length - i; omega) fgt
    · cases ok with
      | false =>
        have := hno (hw2 rfl)
        simp (maxSteps := 4000000) (disch := (first | omega | (simp only [set_next, List.length_append, List.length_cons, List.length_nil, List.length_take, List.length_drop, List.length_map, List.length_set, List.length_replicate]; omega) | (simp only [set_next, ne_eq, reduceCtorEq, not_false_eq_true]))) only [trRow_is cur, hr0, go_sem, Nat.reduceLeDiff, Nat.reduceAdd, Nat.reduceSub, Nat.reduceMul, Nat.reduceLT, Int.reduceLT, Int.reduceLE, Int.reduceAdd, Int.reduceSub, Int.reduceMul, Int.reduceToNat, Int.reduceNeg, Int.reduceEq, Nat.reducePow, Int.reducePow, Nat.reduceEqDiff, decide_true, decide_false, reduceIte, reduceCtorEq, Int.reduceBEq, Int.reduceBNe, bne_self_eq_false, Int.cast_ofNat_Int, Bool.not_true, Bool.not_false, IntKind.bits, w_nat, w_lit, w_add, w_addl, w_ladd, w_sub, w_subl, w_lsub, w_mul, w_mull, w_lmul, t_div, t_divl, t_mod, t_modl, i_lt, i_ltl, i_llt, i_le, i_lel, i_lle, i_eq, i_eql, i_leq, Nat.zero_le, d_beq, d_bne, d_bytes, byte_at, Int.toNat_natCast, toNat_lit, decide_eq_true, decide_eq_false, if_pos, if_neg, slA_len, slA_idx, slA_cells, flat_slA, one_slA, cells_slA, map_mid, strV_is, hp_get1, hp_get2, hp_get3, hp_set1, hp_set2, hp_set3, hp_old, hp_sold, set_got, set_set, set_next, set_other, bytesL, bytes_all, List.length_map, aapp_nils, aapp_wr, List.flatMap_cons, List.flatMap_nil, Nat.mul_one]
        exact aret_plain hs (by simp only [u_top, u_bool, u_int, u_str, u_nilp, u_nils, u_nilf, u_nilm, u_nili, u_emp, u_byteV, u_ptr, u_wr, u_wc, u_agg, u_tup, u_rd, u_imm, u_func, u_nil, u_cons, u_app, uc_nil, uc_cons, uc_app, u_bytes, uc_bytes, u_ints, uc_ints, cells_bool, cells_int, cells_str, cells_agg, cells_ptr, cells_nils, cells_imm, cells_wr, cells_wc, cells_nilp, cells_nilf, cells_nilm, cells_rd, cells_emp, cells_byteV, cells_func, and_self, and_true, true_and, u_slA, uc_strs, cells_slA, strV_is]) this
      | true =>
        have hw := hw1 rfl
        rw [List.drop_of_length_le (by omega), walkTo] at hw
        have := hyes _ hw.symm
        simp (maxSteps := 4000000) (disch := (first | omega | (simp only [set_next, List.length_append, List.length_cons, List.length_nil, List.length_take, List.length_drop, List.length_map, List.length_set, List.length_replicate]; omega) | (simp only [set_next, ne_eq, reduceCtorEq, not_false_eq_true]))) only [trRow_is cur, hr0, go_sem, Nat.reduceLeDiff, Nat.reduceAdd, Nat.reduceSub, Nat.reduceMul, Nat.reduceLT, Int.reduceLT, Int.reduceLE, Int.reduceAdd, Int.reduceSub, Int.reduceMul, Int.reduceToNat, Int.reduceNeg, Int.reduceEq, Nat.reducePow, Int.reducePow, Nat.reduceEqDiff, decide_true, decide_false, reduceIte, reduceCtorEq, Int.reduceBEq, Int.reduceBNe, bne_self_eq_false, Int.cast_ofNat_Int, Bool.not_true, Bool.not_false, IntKind.bits, w_nat, w_lit, w_add, w_addl, w_ladd, w_sub, w_subl, w_lsub, w_mul, w_mull, w_lmul, t_div, t_divl, t_mod, t_modl, i_lt, i_ltl, i_llt, i_le, i_lel, i_lle, i_eq, i_eql, i_leq, Nat.zero_le, d_beq, d_bne, d_bytes, byte_at, Int.toNat_natCast, toNat_lit, decide_eq_true, decide_eq_false, if_pos, if_neg, slA_len, slA_idx, slA_cells, flat_slA, one_slA, cells_slA, map_mid, strV_is, hp_get1, hp_get2, hp_get3, hp_set1, hp_set2, hp_set3, hp_old, hp_sold, set_got, set_set, set_next, set_other, bytesL, bytes_all, List.length_map, aapp_nils, aapp_wr, List.flatMap_cons, List.flatMap_nil, Nat.mul_one]
        refine aret_plain hs ?_ this
        simp only [u_top, u_bool, u_int, u_str, u_nilp, u_nils, u_nilf, u_nilm, u_nili, u_emp, u_byteV, u_ptr, u_wr, u_wc, u_agg, u_tup, u_rd, u_imm, u_func, u_nil, u_cons, u_app, uc_nil, uc_cons, uc_app, u_bytes, uc_bytes, u_ints, uc_ints, cells_bool, cells_int, cells_str, cells_agg, cells_ptr, cells_nils, cells_imm, cells_wr, cells_wc, cells_nilp, cells_nilf, cells_nilm, cells_rd, cells_emp, cells_byteV, cells_func, and_self, and_true, true_and, u_slA, uc_strs, cells_slA, strV_is]
        exact ⟨props_u _ _, kids_u _ _⟩
end
theorem findT_ok {t k : Tr} {p : List UInt8} (ho : TrOk t) (h : findT t p = some k) : TrOk k := by
  unfold findT at h
  split at h
  · exact walkTo_ok ho h
  · cases h
/-- The value of that name at that path. -/
def atT (t : Tr) (p n : List UInt8) : List UInt8 := ((valT ((findT t p).getD tr0) n).getD [])
theorem foundV_is (x : Option Tr) : foundV x = .tup [.agg [.str (B (x.getD tr0).name), slA (x.getD tr0).kp 2 ((x.getD tr0).props.map propV), slA (x.getD tr0).kk 3 ((x.getD tr0).kids.map Tr.V)], .bool x.isSome] := by
  cases x with
  | none => exact foundV_n
  | some k => exact foundV_s k
theorem getD_ok {x : Option Tr} (h : ∀ k, x = some k → TrOk k) : TrOk (x.getD tr0) := by
  cases x with
  | none => exact TrOk_0
  | some k => exact h k rfl
section
variable {H : AHeap} {K : AV → AHeap → Prop}
theorem Text_a {t : Tr} (ho : TrOk t) {p n : List UInt8} (hl : p.length < 1073741824) (hv : (atT t p n).length < 1073741824) (h : K (textV (asText (atT t p n))) H) : (ACalls Tryz.prog) 84 [t.V, .str (B p), .str (B n)] H K := by
  refine acalls_go mo t84 (fun hs hu => ?_)
  have hVi := Tr.V_is t
  simp only [c84, Tr.V_is, go_sem, Nat.reduceLeDiff, Nat.reduceAdd, Nat.reduceSub, Nat.reduceMul, Nat.reduceLT, Int.reduceLT, Int.reduceLE, Int.reduceAdd, Int.reduceSub, Int.reduceMul, Int.reduceToNat, Int.reduceNeg, Int.reduceEq, Nat.reducePow, Int.reducePow, Nat.reduceEqDiff, decide_true, decide_false, reduceIte, reduceCtorEq, Int.reduceBEq, Int.reduceBNe, bne_self_eq_false, Int.cast_ofNat_Int, Bool.not_true, Bool.not_false, IntKind.bits]
  rw [← hVi]
  refine Find_a ho hl ?_
  rw [foundV_is]
  have hfo := getD_ok fun k hk => findT_ok (p := p) ho hk
  have hat : atT t p n = (valT ((findT t p).getD tr0) n).getD [] := rfl
  generalize (findT t p).getD tr0 = f at *
  generalize (findT t p).isSome = b at *
  have hVf := Tr.V_is f
  refine stp0 ?_
  rw [← hVf]
  refine Value_a hfo ?_
  rw [valV_is, ← hat]
  generalize atT t p n = v at *
  refine stp0 ?_
  refine asText_a hv ?_
  rw [textV_is] at h ⊢
  refine stp0 ?_
  exact aret_u hs (h)
theorem join_sl {k : Nat} {ws : List (List UInt8)} {sep : List UInt8} (hN : ws.length ≤ 140737488355328) (hl : (Lib.join ws sep).length ≤ 140737488355328) (h : K (.str (B (Lib.join ws sep))) H) : (ACalls Tryz.prog) 135 [slA k 1 (ws.map strV), .str (B sep)] H K := by
  cases ws with
  | nil =>
    refine acalls_go mo t135 (fun hs hu => ?_)
    have h : K (.str (B [])) H := h
    simp only [c135, List.map_nil, go_sem, Nat.reduceLeDiff, Nat.reduceAdd, Nat.reduceSub, Nat.reduceMul, Nat.reduceLT, Int.reduceLT, Int.reduceLE, Int.reduceAdd, Int.reduceSub, Int.reduceMul, Int.reduceToNat, Int.reduceNeg, Int.reduceEq, Nat.reducePow, Int.reducePow, Nat.reduceEqDiff, decide_true, decide_false, reduceIte, reduceCtorEq, Int.reduceBEq, Int.reduceBNe, bne_self_eq_false, Int.cast_ofNat_Int, Bool.not_true, Bool.not_false, IntKind.bits]
    refine stp0 ?_
    exact aret_u hs (h)
  | cons w ws => exact join_a t135 (List.cons_ne_nil _ _) hN hl h
end
/-! ### trees that are handed in -/
def joinPs (ls : List (List UInt8)) : List UInt8 := 47 :: Lib.join ls [47]
def accP (ls : List (List UInt8)) : List UInt8 := ls.flatMap fun s => 47 :: s
theorem accP_cons (s : List UInt8) (ls : List (List UInt8)) : accP (s :: ls) = 47 :: s ++ accP ls := rfl
theorem accP_tail : ∀ ls : List (List UInt8), accP ls = Lib.joinTail [47] ls
  | [] => rfl
  | s :: ls => by rw [accP_cons, accP_tail ls]; simp [Lib.joinTail]
theorem accP_join {ls : List (List UInt8)} (h : ls ≠ []) : accP ls = joinPs ls := by
  cases ls with
  | nil => cases h rfl
  | cons s ls =>
    unfold joinPs
    rw [accP_cons, Lib.join_cons, accP_tail]
    rfl
theorem accP_len {m : Nat} : ∀ ls : List (List UInt8), (∀ s ∈ ls, s.length ≤ m) → (accP ls).length ≤ ls.length * (m + 1)
  | [], _ => Nat.zero_le _
  | s :: ls, h => by
    have h1 := accP_len ls (fun x hx => h x (List.mem_cons_of_mem _ hx))
    have h2 := h s (List.mem_cons_self ..)
    rw [accP_cons, List.length_append, List.length_cons, List.length_cons, Nat.succ_mul]
    omega
theorem joinPs_len {m : Nat} {ls : List (List UInt8)} (h : ∀ s ∈ ls, s.length ≤ m) : (joinPs ls).length ≤ ls.length * (m + 1) + 1 := by
  by_cases h0 : ls = []
  · rw [h0]
    exact Nat.le_of_ble_eq_true (by rfl)
  · rw [← accP_join h0]
    have := accP_len ls h
    omega
section
variable {H : AHeap} {K : AV → AHeap → Prop}
theorem Join_a {k : Nat} {ls : List (List UInt8)} (hn : ls.length ≤ 65536) (hb : ∀ s ∈ ls, s.length ≤ 65536) (h : K (.str (B (joinPs ls))) H) : (ACalls Tryz.prog) 83 [slA k 1 (ls.map strV)] H K := by
  refine acalls_go mo t83 (fun hs hu => ?_)
  have hl := joinPs_len hb
  have hl2 : (Lib.join ls [47]).length + 1 = (joinPs ls).length := by unfold joinPs; rw [List.length_cons]
  have hm := Nat.mul_le_mul_right 65537 hn
  simp only [c83, go_sem, Nat.reduceLeDiff, Nat.reduceAdd, Nat.reduceSub, Nat.reduceMul, Nat.reduceLT, Int.reduceLT, Int.reduceLE, Int.reduceAdd, Int.reduceSub, Int.reduceMul, Int.reduceToNat, Int.reduceNeg, Int.reduceEq, Nat.reducePow, Int.reducePow, Nat.reduceEqDiff, decide_true, decide_false, reduceIte, reduceCtorEq, Int.reduceBEq, Int.reduceBNe, bne_self_eq_false, Int.cast_ofNat_Int, Bool.not_true, Bool.not_false, IntKind.bits]
  refine join_sl (by omega) (by omega) ?_
  have e : joinPs ls = [47] ++ Lib.join ls [47] := rfl
  rw [e] at h hl hl2
  generalize Lib.join ls [47] = j at *
  refine stp0 ?_
  exact aret_u hs (h)
end
section
variable {H : AHeap} {K : AV → AHeap → Prop}
end
theorem splitA_ne (c : UInt8) : ∀ (l acc : List UInt8), splitA c acc l ≠ []
  | [], acc => by simp [splitA]
  | b :: l, acc => by
    rw [splitA]
    split
    · simp
    · exact splitA_ne c l _
theorem splitA_join (c : UInt8) : ∀ (l acc : List UInt8), Lib.join (splitA c acc l) [c] = acc ++ l
  | [], acc => by simp [splitA, Lib.join_cons, Lib.joinTail]
  | b :: l, acc => by
    rw [splitA]
    by_cases h : b = c
    · rw [if_pos h, Lib.join_cons]
      have ih := splitA_join c l []
      obtain ⟨x, r, e⟩ := List.exists_cons_of_ne_nil (splitA_ne c l [])
      rw [e] at ih ⊢
      rw [Lib.join_cons] at ih
      have h3 : Lib.joinTail [c] (x :: r) = ([c] ++ x) ++ Lib.joinTail [c] r := by simp [Lib.joinTail]
      rw [h3, List.append_assoc, ih, h]
      rfl
    · rw [if_neg h, splitA_join c l, List.append_assoc]
      rfl
theorem parts_join {p : List UInt8} {ns : List (List UInt8)} (h : partsP p = some ns) : joinPs ns = p := by
  unfold partsP at h
  by_cases h1 : p = [47]
  · rw [if_pos h1] at h
    obtain rfl := Option.some.inj h
    rw [h1]
    rfl
  · rw [if_neg h1] at h
    by_cases h2 : p.getD 0 0 = 47
    · rw [if_pos h2, scan_split _ _ _ (by simp), List.nil_append] at h
      split at h
      · obtain rfl := Option.some.inj h
        unfold joinPs
        rw [splitA_join, List.nil_append]
        cases p with
        | nil => revert h2; decide
        | cons c r =>
          have h2 : c = 47 := h2
          rw [h2]
          rfl
      · cases h
    · rw [if_neg h2] at h
      cases h
theorem accP_mem : ∀ {ls : List (List UInt8)} {s : List UInt8}, s ∈ ls → s.length ≤ (accP ls).length
  | x :: ls, s, h => by
    rw [accP_cons, List.length_append, List.length_cons]
    rcases List.mem_cons.1 h with e | e
    · rw [e]; omega
    · have := accP_mem e
      omega
theorem parts_mem {p : List UInt8} {ns : List (List UInt8)} (h : partsP p = some ns) : ∀ s ∈ ns, s.length ≤ p.length := fun s hs => by
  rw [← parts_join h, ← accP_join (fun e => by rw [e] at hs; cases hs)]
  exact accP_mem hs
theorem accP_take_le : ∀ (ls : List (List UInt8)) (i : Nat), (accP (ls.take i)).length ≤ (accP ls).length
  | [], i => by simp
  | s :: ls, 0 => by rw [List.take_zero]; exact Nat.zero_le _
  | s :: ls, i + 1 => by
    have := accP_take_le ls i
    rw [List.take_succ_cons, accP_cons, accP_cons, List.length_append, List.length_append]
    omega
theorem joinPs_le {p : List UInt8} {ns : List (List UInt8)} (h : partsP p = some ns) (i : Nat) : (joinPs (ns.take i)).length ≤ p.length + 1 := by
  by_cases h0 : ns.take i = []
  · rw [h0]
    show (1 : Nat) ≤ _
    omega
  · have hne : ns ≠ [] := fun q => h0 (by rw [q]; simp)
    have := accP_take_le ns i
    rw [accP_join h0, accP_join hne, parts_join h] at this
    omega
structure Cf where
  name : List UInt8
  ck : Nat
  compat : List (List UInt8)
  kernel : List UInt8
  disk : List UInt8
  tree : List UInt8
  ver : Int
  roll : Int
def Cf.cells (c : Cf) : List AV := [.str (B c.name), slA c.ck 1 (c.compat.map strV), .str (B c.kernel), .str (B c.disk), .str (B c.tree), .int .i64 c.ver, .int .i64 c.roll]
def Cf.V (c : Cf) : AV := .agg c.cells
theorem Cf.V_is (c : Cf) : c.V = .agg [.str (B c.name), slA c.ck 1 (c.compat.map strV), .str (B c.kernel), .str (B c.disk), .str (B c.tree), .int .i64 c.ver, .int .i64 c.roll] := rfl
theorem Cf.V_cells (c : Cf) : c.V.cells = [.str (B c.name), slA c.ck 1 (c.compat.map strV), .str (B c.kernel), .str (B c.disk), .str (B c.tree), .int .i64 c.ver, .int .i64 c.roll] := rfl
section
variable {H : AHeap} {K : AV → AHeap → Prop}
end
def Cf.as (c : Cf) (k : Nat) : Cf := { c with ck := k }
section
variable {H : AHeap} {K : AV → AHeap → Prop}
end
section
variable {H : AHeap} {K : AV → AHeap → Prop}
end
end Go.Proofs.YtmdgjfadbhenjaaGreatDoor.AL
