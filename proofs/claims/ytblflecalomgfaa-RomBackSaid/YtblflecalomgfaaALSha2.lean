/- The words of a block told. -/
import Derived.Test.YtblflecalomgfaaALSha1
set_option linter.unusedSimpArgs false
set_option linter.unusedVariables false
set_option maxRecDepth 100000
namespace Go.Proofs.Ytblflecalomgfaa.AL
open Go Go.Proofs
attribute [local go_sem] go_seq go_skip go_region go_regionN go_cond go_block go_exit go_ret nxt_nil nxt_code nxt_blk nxt_cut leave_nil leave_code leave_cut leave_blk rtn_nil rtn_code rtn_blk rtn_cut cnd_t cnd_f rgn_nil rgY_some rgY_none rgH_some rgP_some retTo_is rgV_func grd_und grd_tt grd_ff grd_tf grd_ft rgn_q rgn_alloc rgn_box rgn_store rgn_lit rgn_litw litCells_nil litCells_cons rgn_app rgn_copy rgn_mk rgn_s2b rgn_call rgn_callv rgn_stop rgn_slice3 aslice3 rgn_put rgn_mkmap rgn_lookup rgn_mapup alookup_nilm alookup_map amapup_map afound_ok afound_no rgn_c rgn_cv qclV_func aloadr rgn_guard post_ret post_normal retY_some ares aresL ares1 AX.ev aput List.getD_cons_zero List.getD_cons_succ List.set_cons_zero List.set_cons_succ List.map_cons List.map_nil aq abin aint astr abeq aconv asame aextract alenS alenL_nils alenL_emp alenL_imm alenL_wr aun apart aload afieldAddr afield aidxSl_wr aidxSl_imm aidxPt aidxStr aidxArr abound asliceStr asliceSl asliceArr abest anonil afill astore acells_nils acells_emp acells_imm acells_wr acells_str acopy litAll amk as2b anil nilOf aseq aeqs aeqv fits fit1 hp_next hp_push hp_get hp_set List.length_cons List.length_nil List.getElem?_cons_zero List.getElem?_cons_succ List.cons_append List.nil_append List.append_nil List.take_succ_cons List.take_zero List.drop_succ_cons List.drop_zero List.all_cons List.all_nil Option.map_some Option.some.injEq Bool.and_true Bool.true_and Bool.false_eq_true if_true if_false ite_true ite_false Bool.and_self true_and and_true and_self Nat.zero_add Nat.le_refl Int.toNat_natCast beq_self_eq_true eq_self tops_zero tops_succ Int.natCast_nonneg List.take_nil List.drop_nil Option.map_none flat_bool one_bool cells_bool flat_int one_int cells_int flat_str one_str cells_str flat_nilp one_nilp cells_nilp flat_ptr one_ptr cells_ptr flat_nils one_nils cells_nils flat_imm one_imm cells_imm flat_wr one_wr cells_wr flat_func one_func cells_func flat_nilf one_nilf cells_nilf flat_map one_map cells_map flat_nilm one_nilm cells_nilm flat_iface one_iface cells_iface flat_nili one_nili cells_nili flat_rd one_rd cells_rd flat_emp one_emp cells_emp flat_byteV one_byteV cells_byteV flat_agg cells_agg one_agg B_size B_list B_ext B_toList B_app List.take_length Int.le_refl
def u32V (v : BitVec 32) : AV := .int .u32 (v.toNat : Int)
def sig0 (x : BitVec 32) : BitVec 32 := ror x 7 ^^^ ror x 18 ^^^ (x >>> 3)
def sig1 (x : BitVec 32) : BitVec 32 := ror x 17 ^^^ ror x 19 ^^^ (x >>> 10)
/-- The next word. -/
def wnxt (w : List (BitVec 32)) : BitVec 32 := w.getD (w.length - 16) 0 + sig0 (w.getD (w.length - 15) 0) + w.getD (w.length - 7) 0 + sig1 (w.getD (w.length - 2) 0)
def wgrow : Nat → List (BitVec 32) → List (BitVec 32)
  | 0, w => w
  | n + 1, w => wgrow n w ++ [wnxt (wgrow n w)]
def word4 (l : List UInt8) : BitVec 32 := BitVec.ofNat 32 (big (l.take 4))
def first16 : Nat → List UInt8 → List (BitVec 32)
  | 0, _ => []
  | n + 1, l => first16 n l ++ [word4 (l.drop (4 * n))]
/-- The first n words of a block. -/
def wds (l : List UInt8) (n : Nat) : List (BitVec 32) := if n ≤ 16 then first16 n l else wgrow (n - 16) (first16 16 l)
/-- An array of which the first words are there. -/
def warr (w : List (BitVec 32)) : List AV := w.map u32V ++ List.replicate (64 - w.length) (.int .u32 0)
theorem first16_len : ∀ (n : Nat) (l : List UInt8), (first16 n l).length = n
  | 0, _ => rfl
  | n + 1, l => by simp [first16, first16_len n l]
theorem wgrow_len : ∀ (n : Nat) (w : List (BitVec 32)), (wgrow n w).length = w.length + n
  | 0, _ => rfl
  | n + 1, w => by simp [wgrow, wgrow_len n w]; omega
theorem wds_len (l : List UInt8) (n : Nat) : (wds l n).length = n := by
  unfold wds
  split
  · exact first16_len n l
  · rw [wgrow_len, first16_len]; omega
theorem wds_low (l : List UInt8) (n : Nat) (h : n < 16) : wds l (n + 1) = wds l n ++ [word4 (l.drop (4 * n))] := by
  unfold wds
  rw [if_pos (by omega), if_pos (by omega)]
  rfl
theorem wds_high (l : List UInt8) (n : Nat) (h : 16 ≤ n) : wds l (n + 1) = wds l n ++ [wnxt (wds l n)] := by
  unfold wds
  rw [if_neg (by omega)]
  by_cases h16 : n = 16
  · subst h16
    rw [if_pos (by omega)]
    rfl
  · rw [if_neg (by omega), show n + 1 - 16 = (n - 16) + 1 by omega]
    rfl
theorem warr_len {w : List (BitVec 32)} (h : w.length ≤ 64) : (warr w).length = 64 := by
  simp [warr]
  omega
theorem warr_get {w : List (BitVec 32)} {j : Nat} (h : j < w.length) : (warr w)[j]? = some (u32V (w.getD j 0)) := by
  unfold warr
  rw [List.getElem?_append_left (by simpa using h), List.getElem?_map, List.getElem?_eq_getElem h, List.getD_eq_getElem?_getD, List.getElem?_eq_getElem h]
  rfl
theorem warr_zero {w : List (BitVec 32)} (h : w.length < 64) : warr (w ++ [0#32]) = warr w := by
  unfold warr
  obtain ⟨k, hk⟩ : ∃ k, 64 - w.length = k + 1 := ⟨63 - w.length, by omega⟩
  rw [List.map_append, List.length_append, List.append_assoc, hk, show 64 - (w.length + [0#32].length) = k by simp; omega, List.replicate_succ]
  rfl
theorem warr_put {w : List (BitVec 32)} (x y : BitVec 32) (h : w.length < 64) : (warr (w ++ [x])).take w.length ++ [u32V y] ++ (warr (w ++ [x])).drop (w.length + 1) = warr (w ++ [y]) := by
  unfold warr
  have e : (List.map u32V (w ++ [x]) ++ List.replicate (64 - (w ++ [x]).length) (AV.int .u32 0)) = w.map u32V ++ (u32V x :: List.replicate (64 - (w ++ [x]).length) (AV.int .u32 0)) := by simp
  have e2 : (List.map u32V (w ++ [y]) ++ List.replicate (64 - (w ++ [y]).length) (AV.int .u32 0)) = w.map u32V ++ (u32V y :: List.replicate (64 - (w ++ [y]).length) (AV.int .u32 0)) := by simp
  rw [e, e2, List.take_left' (by simp), ← List.drop_drop, List.drop_left' (by simp), List.drop_succ_cons, List.drop_zero, List.append_assoc]
  simp
theorem warr_one (w : List (BitVec 32)) : (warr w).all AV.one = true := by simp [warr, u32V, AV.one]
theorem warr_full {w : List (BitVec 32)} (h : w.length = 64) : warr w = w.map u32V := by simp [warr, h]
theorem rwords_a {l : List UInt8} (hl : l.length = 64) {H : AHeap} {K : AV → AHeap → Prop} (h : K (.agg ((wds l 64).map u32V)) H) : (ACalls Try.prog) 176 [.str (B l)] H K := by
  refine acalls_go mo t176 (fun hs hu => ?_)
  have hz : List.replicate 64 (AV.int .u32 0) = warr [] := rfl
  simp only [c176, hz, go_sem, Nat.reduceLeDiff, Nat.reduceAdd, Nat.reduceSub, Nat.reduceMul, Nat.reduceLT, Int.reduceLT, Int.reduceLE, Int.reduceAdd, Int.reduceSub, Int.reduceMul, Int.reduceToNat, Int.reduceNeg, Int.reduceEq, Nat.reducePow, Int.reducePow, Nat.reduceEqDiff, decide_true, decide_false, reduceIte, reduceCtorEq, Int.reduceBEq, Int.reduceBNe, bne_self_eq_false, Int.cast_ofNat_Int, Bool.not_true, Bool.not_false, IntKind.bits]
  refine go_loop mono (σ := Nat) (fun i => .str (B l) :: .top :: .ptr (H.next + 0) 0 0 :: .ptr (H.next + 1) 0 0 :: .int .i64 (i : Int) :: tops 65)
    (fun i => hp H [.row 183 0 (warr []), .row 183 0 (warr (wds l i))]) (fun i => i ≤ 64) (fun i => 64 - i) 0 ?_ rfl (Nat.zero_le _) (fun i hi J hJ => ?_)
  · simp only [tops_succ, tops_zero]
    repeat first | exact forget_nil | apply forget_keep | apply forget_top
  simp only [go_sem, Nat.reduceLeDiff, Nat.reduceAdd, Nat.reduceSub, Nat.reduceMul, Nat.reduceLT, Int.reduceLT, Int.reduceLE, Int.reduceAdd, Int.reduceSub, Int.reduceMul, Int.reduceToNat, Int.reduceNeg, Int.reduceEq, Nat.reducePow, Int.reducePow, Nat.reduceEqDiff, decide_true, decide_false, reduceIte, reduceCtorEq, Int.reduceBEq, Int.reduceBNe, bne_self_eq_false, Int.cast_ofNat_Int, Bool.not_true, Bool.not_false, IntKind.bits]
  refine cnd_split (fun h1 => ?_) (fun h1 => ?_)
  · have hi' : i < 64 := by simp at h1; omega
    have hc : ((i : Int) < 64) = True := by simp; omega
    have hwl := wds_len l i
    simp only [go_sem, Nat.reduceLeDiff, Nat.reduceAdd, Nat.reduceSub, Nat.reduceMul, Nat.reduceLT, Int.reduceLT, Int.reduceLE, Int.reduceAdd, Int.reduceSub, Int.reduceMul, Int.reduceToNat, Int.reduceNeg, Int.reduceEq, Nat.reducePow, Int.reducePow, Nat.reduceEqDiff, decide_true, decide_false, reduceIte, reduceCtorEq, Int.reduceBEq, Int.reduceBNe, bne_self_eq_false, Int.cast_ofNat_Int, Bool.not_true, Bool.not_false, IntKind.bits]
    refine cnd_split (fun h2 => ?_) (fun h2 => ?_)
    · have hi2 : i < 16 := by simp at h2; omega
      rw [← warr_zero (w := wds l i) (by omega)]
      have hget : ∀ x : BitVec 32, (warr (wds l i ++ [x]))[i]? = some (.int .u32 (x.toNat : Int)) := fun x => by
        rw [warr_get (by simp; omega), List.getD_eq_getElem?_getD, List.getElem?_append_right (by omega), hwl, Nat.sub_self]
        rfl
      have hput : ∀ x y : BitVec 32, (warr (wds l i ++ [x])).take i ++ [.int .u32 (y.toNat : Int)] ++ (warr (wds l i ++ [x])).drop (i + 1) = warr (wds l i ++ [y]) := fun x y => by
        have := warr_put (w := wds l i) x y (by omega)
        rw [hwl] at this
        exact this
      have hlen : ∀ x : BitVec 32, (warr (wds l i ++ [x])).length = 64 := fun x => warr_len (by simp; omega)
      have hle : i + 1 ≤ 64 := by omega
      have h4 : IntKind.wrap .i64 (4 * (i : Int)) = ((4 * i : Nat) : Int) := by rw [wi64 (by omega) (by omega)]; omega
      have hidx : ∀ k : Nat, k < 4 → (l[4 * i + k]?).map (fun b => AV.int .u8 (b.toNat : Int)) = some (.int .u8 (((l.drop (4 * i)).getD k 0).toNat : Int)) := fun k hk => by
        rw [List.getD_eq_getElem?_getD, List.getElem?_drop, List.getElem?_eq_getElem (by omega)]
        rfl
      have hk : ∀ k : Nat, k < 4 → IntKind.wrap .i64 (((4 * i : Nat) : Int) + (k : Int)) = ((4 * i + k : Nat) : Int) := fun k hk => by rw [wi64 (by omega) (by omega)]; omega
      have hk0 : IntKind.wrap .i64 (((4 * i : Nat) : Int) + 0) = ((4 * i + 0 : Nat) : Int) := hk 0 (by decide)
      have hk1 : IntKind.wrap .i64 (((4 * i : Nat) : Int) + 1) = ((4 * i + 1 : Nat) : Int) := hk 1 (by decide)
      have hk2 : IntKind.wrap .i64 (((4 * i : Nat) : Int) + 2) = ((4 * i + 2 : Nat) : Int) := hk 2 (by decide)
      have hk3 : IntKind.wrap .i64 (((4 * i : Nat) : Int) + 3) = ((4 * i + 3 : Nat) : Int) := hk 3 (by decide)
      have hst : ∀ (n : Nat) (b : UInt8), n < 16777216 → IntKind.wrap .u32 (IntKind.wrap .u32 (((BitVec.ofNat 32 n).toNat : Int) * 256) + IntKind.wrap .u32 (b.toNat : Int)) = ((BitVec.ofNat 32 (n * 256 + b.toNat)).toNat : Int) := fun n b hn => by
        have := b.toNat_lt
        have e1 : IntKind.wrap .u32 ((n : Int) * 256) = (n : Int) * 256 := wu32 (by omega) (by omega)
        have e2 : IntKind.wrap .u32 (b.toNat : Int) = (b.toNat : Int) := wu32 (by omega) (by omega)
        rw [BitVec.toNat_ofNat, BitVec.toNat_ofNat, Nat.mod_eq_of_lt (by omega), Nat.mod_eq_of_lt (by omega), e1, e2, wu32 (by omega) (by omega)]
        omega
      simp only [go_sem, Nat.reduceLeDiff, Nat.reduceAdd, Nat.reduceSub, Nat.reduceMul, Nat.reduceLT, Int.reduceLT, Int.reduceLE, Int.reduceAdd, Int.reduceSub, Int.reduceMul, Int.reduceToNat, Int.reduceNeg, Int.reduceEq, Nat.reducePow, Int.reducePow, Nat.reduceEqDiff, decide_true, decide_false, reduceIte, reduceCtorEq, Int.reduceBEq, Int.reduceBNe, bne_self_eq_false, Int.cast_ofNat_Int, Bool.not_true, Bool.not_false, IntKind.bits]
      refine go_rounds mono 5 ?_
      have v1 : IntKind.wrap .i64 1 = 1 := by decide
      have v2 : IntKind.wrap .i64 2 = 2 := by decide
      have v3 : IntKind.wrap .i64 3 = 3 := by decide
      have v4 : IntKind.wrap .i64 4 = 4 := by decide
      have hi0 := hidx 0 (by decide)
      have hi1 := hidx 1 (by decide)
      have hi2' := hidx 2 (by decide)
      have hi3 := hidx 3 (by decide)
      generalize hd : (l.drop (4 * i)) = q at hi0 hi1 hi2' hi3
      have hz0 : (0#32) = BitVec.ofNat 32 0 := rfl
      have q0 := (q.getD 0 0).toNat_lt
      have q1 := (q.getD 1 0).toNat_lt
      have q2 := (q.getD 2 0).toNat_lt
      have q3 := (q.getD 3 0).toNat_lt
      simp (disch := omega) only [rnds_succ, hc, hget, hput, hlen, hle, h4, hk0, hk1, hk2, hk3, hi0, hi1, hi2', hi3, v1, v2, v3, v4, hz0, hst, wnext hi' (by decide : 64 ≤ 9223372036854775807), Nat.mul_one, go_sem, Nat.reduceLeDiff, Nat.reduceAdd, Nat.reduceSub, Nat.reduceMul, Nat.reduceLT, Int.reduceLT, Int.reduceLE, Int.reduceAdd, Int.reduceSub, Int.reduceMul, Int.reduceToNat, Int.reduceNeg, Int.reduceEq, Nat.reducePow, Int.reducePow, Nat.reduceEqDiff, decide_true, decide_false, reduceIte, reduceCtorEq, Int.reduceBEq, Int.reduceBNe, bne_self_eq_false, Int.cast_ofNat_Int, Bool.not_true, Bool.not_false, IntKind.bits]
      have hfin : wds l i ++ [BitVec.ofNat 32 ((((q.getD 0 0).toNat * 256 + (q.getD 1 0).toNat) * 256 + (q.getD 2 0).toNat) * 256 + (q.getD 3 0).toNat)] = wds l (i + 1) := by
        have hql : 4 ≤ q.length := by rw [← hd]; simp; omega
        rw [wds_low _ _ hi2, hd]
        match q, hql with
        | a :: b :: c :: d :: r, _ => simp [word4, big]
      try simp only [Nat.zero_mul, Nat.zero_add]
      rw [hfin]
      refine hJ (i + 1) _ (by omega) (by omega) ?_
      simp only [tops_succ, tops_zero]
      repeat first | exact forget_nil | apply forget_keep | apply forget_top
    · have hi2 : 16 ≤ i := by simp at h2; omega
      rw [← warr_zero (w := wds l i) (by omega)]
      have hget : ∀ j, j < i → (warr (wds l i ++ [0#32]))[j]? = some (.int .u32 (((wds l i).getD j 0).toNat : Int)) := fun j hj => by
        rw [warr_get (by simp; omega), List.getD_eq_getElem?_getD, List.getElem?_append_left (by omega), ← List.getD_eq_getElem?_getD]
        rfl
      have hput : ∀ x y : BitVec 32, (warr (wds l i ++ [x])).take i ++ [.int .u32 (y.toNat : Int)] ++ (warr (wds l i ++ [x])).drop (i + 1) = warr (wds l i ++ [y]) := fun x y => by
        have := warr_put (w := wds l i) x y (by omega)
        rw [hwl] at this
        exact this
      have hlen : ∀ x : BitVec 32, (warr (wds l i ++ [x])).length = 64 := fun x => warr_len (by simp; omega)
      have hle : i + 1 ≤ 64 := by omega
      have w15 : IntKind.wrap .i64 ((i : Int) - 15) = ((i - 15 : Nat) : Int) := by rw [wi64 (by omega) (by omega)]; omega
      have w2 : IntKind.wrap .i64 ((i : Int) - 2) = ((i - 2 : Nat) : Int) := by rw [wi64 (by omega) (by omega)]; omega
      have w16 : IntKind.wrap .i64 ((i : Int) - 16) = ((i - 16 : Nat) : Int) := by rw [wi64 (by omega) (by omega)]; omega
      have w7 : IntKind.wrap .i64 ((i : Int) - 7) = ((i - 7 : Nat) : Int) := by rw [wi64 (by omega) (by omega)]; omega
      have b15 : (((i - 15 : Nat) : Int) < 64) = True := by simp only [eq_iff_iff, iff_true]; omega
      have b2 : (((i - 2 : Nat) : Int) < 64) = True := by simp only [eq_iff_iff, iff_true]; omega
      have b16 : (((i - 16 : Nat) : Int) < 64) = True := by simp only [eq_iff_iff, iff_true]; omega
      have b7 : (((i - 7 : Nat) : Int) < 64) = True := by simp only [eq_iff_iff, iff_true]; omega
      have g15 := hget (i - 15) (by omega)
      have g2 := hget (i - 2) (by omega)
      have g16 := hget (i - 16) (by omega)
      have g7 := hget (i - 7) (by omega)
      have hadd : ∀ a b : BitVec 32, IntKind.wrap .u32 ((a.toNat : Int) + (b.toNat : Int)) = ((a + b).toNat : Int) := fun a b => by
        rw [IntKind.wrap_u32, BitVec.toNat_add]
        omega
      have hs3 : ∀ a : BitVec 32, (a.toNat : Int) / (8 : Int) = ((a >>> 3).toNat : Int) := fun a => by
        rw [BitVec.toNat_ushiftRight, Nat.shiftRight_eq_div_pow]
        omega
      have hs10 : ∀ a : BitVec 32, (a.toNat : Int) / (1024 : Int) = ((a >>> 10).toNat : Int) := fun a => by
        rw [BitVec.toNat_ushiftRight, Nat.shiftRight_eq_div_pow]
        omega
      simp only [hc, w15, w2, w16, w7, b15, b2, b16, b7, g15, g2, g16, g7, Nat.mul_one, go_sem, Nat.reduceLeDiff, Nat.reduceAdd, Nat.reduceSub, Nat.reduceMul, Nat.reduceLT, Int.reduceLT, Int.reduceLE, Int.reduceAdd, Int.reduceSub, Int.reduceMul, Int.reduceToNat, Int.reduceNeg, Int.reduceEq, Nat.reducePow, Int.reducePow, Nat.reduceEqDiff, decide_true, decide_false, reduceIte, reduceCtorEq, Int.reduceBEq, Int.reduceBNe, bne_self_eq_false, Int.cast_ofNat_Int, Bool.not_true, Bool.not_false, IntKind.bits]
      refine ⟨_, rturn_a (a := 7) (by decide) (by decide) ⟨rfl, rfl⟩, ?_⟩
      simp only [hc, go_sem, Nat.reduceLeDiff, Nat.reduceAdd, Nat.reduceSub, Nat.reduceMul, Nat.reduceLT, Int.reduceLT, Int.reduceLE, Int.reduceAdd, Int.reduceSub, Int.reduceMul, Int.reduceToNat, Int.reduceNeg, Int.reduceEq, Nat.reducePow, Int.reducePow, Nat.reduceEqDiff, decide_true, decide_false, reduceIte, reduceCtorEq, Int.reduceBEq, Int.reduceBNe, bne_self_eq_false, Int.cast_ofNat_Int, Bool.not_true, Bool.not_false, IntKind.bits]
      refine ⟨_, rturn_a (a := 18) (by decide) (by decide) ⟨rfl, rfl⟩, ?_⟩
      simp (disch := omega) only [hc, w15, w2, w16, w7, b15, b2, b16, b7, g15, g2, g16, g7, shr_u32, hs3, hs10, hadd, xor_bv32, Nat.mul_one, go_sem, Nat.reduceLeDiff, Nat.reduceAdd, Nat.reduceSub, Nat.reduceMul, Nat.reduceLT, Int.reduceLT, Int.reduceLE, Int.reduceAdd, Int.reduceSub, Int.reduceMul, Int.reduceToNat, Int.reduceNeg, Int.reduceEq, Nat.reducePow, Int.reducePow, Nat.reduceEqDiff, decide_true, decide_false, reduceIte, reduceCtorEq, Int.reduceBEq, Int.reduceBNe, bne_self_eq_false, Int.cast_ofNat_Int, Bool.not_true, Bool.not_false, IntKind.bits]
      refine ⟨_, rturn_a (a := 17) (by decide) (by decide) ⟨rfl, rfl⟩, ?_⟩
      simp only [hc, go_sem, Nat.reduceLeDiff, Nat.reduceAdd, Nat.reduceSub, Nat.reduceMul, Nat.reduceLT, Int.reduceLT, Int.reduceLE, Int.reduceAdd, Int.reduceSub, Int.reduceMul, Int.reduceToNat, Int.reduceNeg, Int.reduceEq, Nat.reducePow, Int.reducePow, Nat.reduceEqDiff, decide_true, decide_false, reduceIte, reduceCtorEq, Int.reduceBEq, Int.reduceBNe, bne_self_eq_false, Int.cast_ofNat_Int, Bool.not_true, Bool.not_false, IntKind.bits]
      refine ⟨_, rturn_a (a := 19) (by decide) (by decide) ⟨rfl, rfl⟩, ?_⟩
      simp (disch := omega) only [hc, w15, w2, w16, w7, b15, b2, b16, b7, g15, g2, g16, g7, shr_u32, hs3, hs10, hadd, xor_bv32, hput, hlen, hle, wnext hi' (by decide : 64 ≤ 9223372036854775807), Nat.mul_one, go_sem, Nat.reduceLeDiff, Nat.reduceAdd, Nat.reduceSub, Nat.reduceMul, Nat.reduceLT, Int.reduceLT, Int.reduceLE, Int.reduceAdd, Int.reduceSub, Int.reduceMul, Int.reduceToNat, Int.reduceNeg, Int.reduceEq, Nat.reducePow, Int.reducePow, Nat.reduceEqDiff, decide_true, decide_false, reduceIte, reduceCtorEq, Int.reduceBEq, Int.reduceBNe, bne_self_eq_false, Int.cast_ofNat_Int, Bool.not_true, Bool.not_false, IntKind.bits]
      have hfin : wds l i ++ [wnxt (wds l i)] = wds l (i + 1) := (wds_high _ _ hi2).symm
      unfold wnxt at hfin
      rw [hwl] at hfin
      unfold sig0 sig1 at hfin
      rw [hfin]
      refine hJ (i + 1) _ (by omega) (by omega) ?_
      simp only [tops_succ, tops_zero]
      repeat first | exact forget_nil | apply forget_keep | apply forget_top
  · have hi' : i = 64 := by simp at h1; omega
    subst hi'
    have e1 : (warr (wds l 64)).take 64 = warr (wds l 64) := List.take_of_length_le (by rw [warr_len (by rw [wds_len]; exact Nat.le_refl _)]; exact Nat.le_refl _)
    have e2 : (warr []).drop 64 = [] := List.drop_of_length_le (by rw [warr_len (by simp)]; exact Nat.le_refl _)
    have e3 : (warr (wds l 64)).length = 64 := warr_len (by rw [wds_len]; exact Nat.le_refl _)
    have e4 : (warr []).length = 64 := warr_len (by simp)
    simp only [e1, e2, e3, e4, warr_one, go_sem, Nat.reduceLeDiff, Nat.reduceAdd, Nat.reduceSub, Nat.reduceMul, Nat.reduceLT, Int.reduceLT, Int.reduceLE, Int.reduceAdd, Int.reduceSub, Int.reduceMul, Int.reduceToNat, Int.reduceNeg, Int.reduceEq, Nat.reducePow, Int.reducePow, Nat.reduceEqDiff, decide_true, decide_false, reduceIte, reduceCtorEq, Int.reduceBEq, Int.reduceBNe, bne_self_eq_false, Int.cast_ofNat_Int, Bool.not_true, Bool.not_false, IntKind.bits]
    rw [warr_full (wds_len l 64)]
    refine aret_plain hs (.agg _ (fun c hc => ?_)) h
    obtain ⟨v, _, rfl⟩ := List.mem_map.1 hc
    exact .int _ _
end Go.Proofs.Ytblflecalomgfaa.AL
