/- Texts gathered into one. -/
import Derived.Test.YtfilheaaacffmaaQPartApartALNorA
import Derived.Test.YtfilheaaacffmaaQPartApartALA4
/- The law's own 'awake' told. -/
set_option linter.unusedSimpArgs false
set_option linter.unusedVariables false
set_option maxRecDepth 100000
namespace Go.Proofs.Ytfilheaaacffmaa.AL
open Go Go.Proofs
attribute [local go_sem] go_seq go_skip go_region go_regionN go_cond go_block go_exit go_ret nxt_nil nxt_code nxt_blk nxt_cut leave_nil leave_code leave_cut leave_blk rtn_nil rtn_code rtn_blk rtn_cut cnd_t cnd_f rgn_nil rgY_some rgY_none rgH_some rgP_some retTo_is rgV_func grd_und grd_tt grd_ff grd_tf grd_ft rgn_q rgn_alloc rgn_box rgn_store rgn_lit rgn_litw litCells_nil litCells_cons rgn_app rgn_copy rgn_mk rgn_s2b rgn_call rgn_callv rgn_stop rgn_slice3 aslice3 rgn_put rgn_mkmap rgn_lookup rgn_mapup alookup_nilm alookup_map amapup_map afound_ok afound_no rgn_c rgn_cv qclV_func aloadr rgn_guard post_ret post_normal retY_some ares aresL ares1 AX.ev aput List.getD_cons_zero List.getD_cons_succ List.set_cons_zero List.set_cons_succ List.map_cons List.map_nil aq abin aint astr abeq aconv asame aextract alenS alenL_nils alenL_emp alenL_imm alenL_wr aun apart aload afieldAddr afield aidxSl_wr aidxSl_imm aidxPt aidxStr aidxArr abound asliceStr asliceSl asliceArr abest anonil afill astore acells_nils acells_emp acells_imm acells_wr acells_str acopy litAll amk as2b anil nilOf aseq aeqs aeqv fits fit1 hp_next hp_push hp_get hp_set List.length_cons List.length_nil List.getElem?_cons_zero List.getElem?_cons_succ List.cons_append List.nil_append List.append_nil List.take_succ_cons List.take_zero List.drop_succ_cons List.drop_zero List.all_cons List.all_nil Option.map_some Option.some.injEq Bool.and_true Bool.true_and Bool.false_eq_true if_true if_false ite_true ite_false Bool.and_self true_and and_true and_self Nat.zero_add Nat.le_refl Int.toNat_natCast beq_self_eq_true eq_self tops_zero tops_succ Int.natCast_nonneg List.take_nil List.drop_nil Option.map_none flat_bool one_bool cells_bool flat_int one_int cells_int flat_str one_str cells_str flat_nilp one_nilp cells_nilp flat_ptr one_ptr cells_ptr flat_nils one_nils cells_nils flat_imm one_imm cells_imm flat_wr one_wr cells_wr flat_func one_func cells_func flat_nilf one_nilf cells_nilf flat_map one_map cells_map flat_nilm one_nilm cells_nilm flat_iface one_iface cells_iface flat_nili one_nili cells_nili flat_rd one_rd cells_rd flat_emp one_emp cells_emp flat_byteV one_byteV cells_byteV flat_agg cells_agg one_agg B_size B_list B_ext B_toList B_app List.take_length Int.le_refl
end Go.Proofs.Ytfilheaaacffmaa.AL
/- What is written to bytes that are 0xff is there. -/
set_option linter.unusedSimpArgs false
set_option linter.unusedVariables false
set_option maxRecDepth 100000
namespace Go.Proofs.Ytfilheaaacffmaa.AL
open Go Go.Proofs
attribute [local go_sem] go_seq go_skip go_region go_regionN go_cond go_block go_exit go_ret nxt_nil nxt_code nxt_blk nxt_cut leave_nil leave_code leave_cut leave_blk rtn_nil rtn_code rtn_blk rtn_cut cnd_t cnd_f rgn_nil rgY_some rgY_none rgH_some rgP_some retTo_is rgV_func grd_und grd_tt grd_ff grd_tf grd_ft rgn_q rgn_alloc rgn_box rgn_store rgn_lit rgn_litw litCells_nil litCells_cons rgn_app rgn_copy rgn_mk rgn_s2b rgn_call rgn_callv rgn_stop rgn_slice3 aslice3 rgn_put rgn_mkmap rgn_lookup rgn_mapup alookup_nilm alookup_map amapup_map afound_ok afound_no rgn_c rgn_cv qclV_func aloadr rgn_guard post_ret post_normal retY_some ares aresL ares1 AX.ev aput List.getD_cons_zero List.getD_cons_succ List.set_cons_zero List.set_cons_succ List.map_cons List.map_nil aq abin aint astr abeq aconv asame aextract alenS alenL_nils alenL_emp alenL_imm alenL_wr aun apart aload afieldAddr afield aidxSl_wr aidxSl_imm aidxPt aidxStr aidxArr abound asliceStr asliceSl asliceArr abest anonil afill astore acells_nils acells_emp acells_imm acells_wr acells_str acopy litAll amk as2b anil nilOf aseq aeqs aeqv fits fit1 hp_next hp_push hp_get hp_set List.length_cons List.length_nil List.getElem?_cons_zero List.getElem?_cons_succ List.cons_append List.nil_append List.append_nil List.take_succ_cons List.take_zero List.drop_succ_cons List.drop_zero List.all_cons List.all_nil Option.map_some Option.some.injEq Bool.and_true Bool.true_and Bool.false_eq_true if_true if_false ite_true ite_false Bool.and_self true_and and_true and_self Nat.zero_add Nat.le_refl Int.toNat_natCast beq_self_eq_true eq_self tops_zero tops_succ Int.natCast_nonneg List.take_nil List.drop_nil Option.map_none flat_bool one_bool cells_bool flat_int one_int cells_int flat_str one_str cells_str flat_nilp one_nilp cells_nilp flat_ptr one_ptr cells_ptr flat_nils one_nils cells_nils flat_imm one_imm cells_imm flat_wr one_wr cells_wr flat_func one_func cells_func flat_nilf one_nilf cells_nilf flat_map one_map cells_map flat_nilm one_nilm cells_nilm flat_iface one_iface cells_iface flat_nili one_nili cells_nili flat_rd one_rd cells_rd flat_emp one_emp cells_emp flat_byteV one_byteV cells_byteV flat_agg cells_agg one_agg B_size B_list B_ext B_toList B_app List.take_length Int.le_refl
structure Calm (x : Chp) : Prop where
  on : x.on = true
  fuse : x.fuse = -1
  len : x.l.length = 24576
theorem Calm.blown {x : Chp} (h : Calm x) : x.blown = false := by unfold Chp.blown; rw [if_pos h.fuse]
theorem Calm.blow {x : Chp} (h : Calm x) : x.blow = { x with ops := wo (x.ops + 1) } := by unfold Chp.blow; rw [if_pos h.fuse]
theorem Calm.doE {x : Chp} (h : Calm x) : x.doE = 0 := by unfold Chp.doE; rw [h.blown]; rfl
theorem Calm.doC {x : Chp} (h : Calm x) (i n : Nat) (f : Nat → UInt8 → UInt8) (g : Nat → UInt8 → UInt8 → UInt8) : Calm (x.doC i n f g) ∧ (x.doC i n f g).l = mapAt i f x.l n := by
  have h1 : x.doC i n f g = { x.blow with l := mapAt i f x.l n } := by unfold Chp.doC; rw [h.blown]; rfl
  rw [h1, h.blow]
  exact ⟨⟨h.on, h.fuse, by rw [mapAt_len]; exact h.len⟩, rfl⟩
theorem hasN_of {i n : Nat} (h : i + n ≤ 24576) : hasN (i : Int) (n : Int) = true := by
  unfold hasN
  exact decide_eq_true ⟨by omega, by omega, by omega, by omega⟩
theorem Calm.prog {x : Chp} (h : Calm x) {i : Nat} {t : List UInt8} (h1 : t ≠ []) (h2 : i % 32 + t.length ≤ 32) (h3 : i + t.length ≤ 24576) : (x.prog (i : Int) t).2 = 0 ∧ Calm (x.prog (i : Int) t).1 ∧ (x.prog (i : Int) t).1.l = mapAt i (prF t) x.l t.length := by
  have hp : x.prog (i : Int) t = (x.doC i t.length (prF t) (prG t), x.doE) := by
    unfold Chp.prog
    rw [if_pos h.on, if_neg (by rintro (h4 | h4); exact h1 h4; omega), if_pos (hasN_of h3), Int.toNat_natCast, if_neg (by omega)]
  rw [hp]
  exact ⟨h.doE, (h.doC _ _ _ _).1, (h.doC _ _ _ _).2⟩
theorem wr_calm : ∀ (m : Nat) (s : List UInt8) (x : Chp) (i : Nat), s.length ≤ m → Calm x → i + s.length ≤ 24576 → (x.wr i s).2 = 0 ∧ Calm (x.wr i s).1 ∧ ∀ j, (x.wr i s).1.l.getD j 0 = if i ≤ j ∧ j < i + s.length then x.l.getD j 0 &&& s.getD (j - i) 0 else x.l.getD j 0
  | 0, s, x, i, hm, hc, hi => by
    have hs : s = [] := List.eq_nil_of_length_eq_zero (by omega)
    subst hs
    rw [Chp.wr, dif_pos rfl]
    refine ⟨rfl, hc, fun j => ?_⟩
    rw [if_neg (by simp)]
  | m + 1, s, x, i, hm, hc, hi => by
    by_cases hs : s = []
    · subst hs
      rw [Chp.wr, dif_pos rfl]
      refine ⟨rfl, hc, fun j => ?_⟩
      rw [if_neg (by simp)]
    · have hp := page_pos i hs
      have hp2 : page i s ≤ s.length := Nat.min_le_left _ _
      have hp3 : page i s ≤ 32 - i % 32 := Nat.min_le_right _ _
      have hmod : i % 32 < 32 := Nat.mod_lt _ (by omega)
      rw [Chp.wr, dif_neg hs]
      generalize page i s = n at *
      have htl : (s.take n).length = n := by simp; omega
      have hne : s.take n ≠ [] := fun h => by rw [h] at htl; simp at htl; omega
      obtain ⟨q1, q2, q3⟩ := hc.prog (i := i) hne (by omega) (by omega)
      rw [if_pos q1]
      generalize x.prog (i : Int) (s.take n) = q at *
      obtain ⟨r1, r2, r3⟩ := wr_calm m (s.drop n) q.1 (i + n) (by simp; omega) q2 (by simp; omega)
      refine ⟨r1, r2, fun j => ?_⟩
      rw [r3 j, q3, htl, mapAt_get _ _ _ _ _ (by rw [hc.len]; omega)]
      simp only [List.length_drop, getD_drop, prF, getD_take]
      by_cases a1 : i ≤ j ∧ j < i + n
      · rw [if_neg (by omega), if_pos a1, if_pos (by omega), if_pos (by omega)]
      · rw [if_neg a1]
        by_cases a2 : i + n ≤ j ∧ j < i + s.length
        · rw [if_pos (by omega), if_pos (by omega), show n + (j - (i + n)) = j - i by omega]
        · rw [if_neg (by omega), if_neg (by omega)]
theorem Calm.erase {x : Chp} (h : Calm x) {k : Nat} (hk : k < 48) : (x.erase (k : Int)).2 = 0 ∧ Calm (x.erase (k : Int)).1 ∧ ∀ j, (x.erase (k : Int)).1.l.getD j 0 = if k * 512 ≤ j ∧ j < k * 512 + 512 then 255 else x.l.getD j 0 := by
  have hp : x.erase (k : Int) = (x.doC (k * 512) 512 erF erG, x.doE) := by
    unfold Chp.erase
    rw [if_pos h.on, if_neg (by omega), Int.toNat_natCast]
  rw [hp]
  refine ⟨h.doE, (h.doC _ _ _ _).1, fun j => ?_⟩
  show (x.doC (k * 512) 512 erF erG).l.getD j 0 = _
  rw [(h.doC _ _ _ _).2, mapAt_get _ _ _ _ _ (by rw [h.len]; omega)]
  rfl
theorem Calm.write {x : Chp} (h : Calm x) {i : Nat} {s : List UInt8} (hi : i + s.length ≤ 24576) : (x.write (i : Int) s).2 = 0 ∧ Calm (x.write (i : Int) s).1 ∧ ∀ j, (x.write (i : Int) s).1.l.getD j 0 = if i ≤ j ∧ j < i + s.length then x.l.getD j 0 &&& s.getD (j - i) 0 else x.l.getD j 0 := by
  have hp : x.write (i : Int) s = x.wr i s := by
    unfold Chp.write
    rw [if_pos h.on, if_pos (hasN_of hi), Int.toNat_natCast]
  rw [hp]
  exact wr_calm _ s x i (Nat.le_refl _) h hi
end Go.Proofs.Ytfilheaaacffmaa.AL
/- An act on a flash, told. -/
set_option linter.unusedSimpArgs false
set_option linter.unusedVariables false
set_option maxRecDepth 100000
namespace Go.Proofs.Ytfilheaaacffmaa.AL
open Go Go.Proofs
attribute [local go_sem] go_seq go_skip go_region go_regionN go_cond go_block go_exit go_ret nxt_nil nxt_code nxt_blk nxt_cut leave_nil leave_code leave_cut leave_blk rtn_nil rtn_code rtn_blk rtn_cut cnd_t cnd_f rgn_nil rgY_some rgY_none rgH_some rgP_some retTo_is rgV_func grd_und grd_tt grd_ff grd_tf grd_ft rgn_q rgn_alloc rgn_box rgn_store rgn_lit rgn_litw litCells_nil litCells_cons rgn_app rgn_copy rgn_mk rgn_s2b rgn_call rgn_callv rgn_stop rgn_slice3 aslice3 rgn_put rgn_mkmap rgn_lookup rgn_mapup alookup_nilm alookup_map amapup_map afound_ok afound_no rgn_c rgn_cv qclV_func aloadr rgn_guard post_ret post_normal retY_some ares aresL ares1 AX.ev aput List.getD_cons_zero List.getD_cons_succ List.set_cons_zero List.set_cons_succ List.map_cons List.map_nil aq abin aint astr abeq aconv asame aextract alenS alenL_nils alenL_emp alenL_imm alenL_wr aun apart aload afieldAddr afield aidxSl_wr aidxSl_imm aidxPt aidxStr aidxArr abound asliceStr asliceSl asliceArr abest anonil afill astore acells_nils acells_emp acells_imm acells_wr acells_str acopy litAll amk as2b anil nilOf aseq aeqs aeqv fits fit1 hp_next hp_push hp_get hp_set List.length_cons List.length_nil List.getElem?_cons_zero List.getElem?_cons_succ List.cons_append List.nil_append List.append_nil List.take_succ_cons List.take_zero List.drop_succ_cons List.drop_zero List.all_cons List.all_nil Option.map_some Option.some.injEq Bool.and_true Bool.true_and Bool.false_eq_true if_true if_false ite_true ite_false Bool.and_self true_and and_true and_self Nat.zero_add Nat.le_refl Int.toNat_natCast beq_self_eq_true eq_self tops_zero tops_succ Int.natCast_nonneg List.take_nil List.drop_nil Option.map_none flat_bool one_bool cells_bool flat_int one_int cells_int flat_str one_str cells_str flat_nilp one_nilp cells_nilp flat_ptr one_ptr cells_ptr flat_nils one_nils cells_nils flat_imm one_imm cells_imm flat_wr one_wr cells_wr flat_func one_func cells_func flat_nilf one_nilf cells_nilf flat_map one_map cells_map flat_nilm one_nilm cells_nilm flat_iface one_iface cells_iface flat_nili one_nili cells_nili flat_rd one_rd cells_rd flat_emp one_emp cells_emp flat_byteV one_byteV cells_byteV flat_agg cells_agg one_agg B_size B_list B_ext B_toList B_app List.take_length Int.le_refl
structure Act where
  kind : Int
  at_ : Int
  n : Int
  s : List UInt8
def Act.v (a : Act) : List AV := [.int .i64 a.kind, .int .i64 a.at_, .int .i64 a.n, .str (B a.s)]
end Go.Proofs.Ytfilheaaacffmaa.AL
/- Programming sets no bit, erasing clears none. -/
set_option linter.unusedSimpArgs false
set_option linter.unusedVariables false
set_option maxRecDepth 100000
namespace Go.Proofs.Ytfilheaaacffmaa.AL
open Go Go.Proofs
theorem doC_get (x : Chp) (i n : Nat) (f : Nat → UInt8 → UInt8) (g : Nat → UInt8 → UInt8 → UInt8) (h : i + n ≤ x.l.length) (j : Nat) :
    (x.doC i n f g).l.getD j 0 = x.l.getD j 0 ∨ ((i ≤ j ∧ j < i + n) ∧ ((x.doC i n f g).l.getD j 0 = f (j - i) (x.l.getD j 0) ∨ ∃ t, (x.doC i n f g).l.getD j 0 = g (j - i) (x.l.getD j 0) t)) := by
  unfold Chp.doC
  split
  · split
    · rw [blow_l]; exact .inl rfl
    · show (mapAt i _ x.l n).getD j 0 = _ ∨ _ ∧ ((mapAt i _ x.l n).getD j 0 = _ ∨ ∃ t, (mapAt i _ x.l n).getD j 0 = _)
      rw [mapAt_get _ _ _ _ _ h]
      split
      · rename_i hj; exact .inr ⟨hj, .inr ⟨_, rfl⟩⟩
      · exact .inl rfl
  · show (mapAt i _ x.l n).getD j 0 = _ ∨ _ ∧ ((mapAt i _ x.l n).getD j 0 = _ ∨ ∃ t, (mapAt i _ x.l n).getD j 0 = _)
    rw [mapAt_get _ _ _ _ _ h]
    split
    · rename_i hj; exact .inr ⟨hj, .inl rfl⟩
    · exact .inl rfl
theorem and_idem (a b : UInt8) : (a &&& b) &&& a = a &&& b := by
  rw [UInt8.and_comm (a &&& b) a, ← UInt8.and_assoc, UInt8.and_self]
theorem or_absorb (a b : UInt8) : (a ||| b) &&& a = a := by
  apply UInt8.toNat_inj.1
  rw [UInt8.toNat_and, UInt8.toNat_or]
  apply Nat.eq_of_testBit_eq
  intro k
  rw [Nat.testBit_and, Nat.testBit_or]
  cases a.toNat.testBit k <;> cases b.toNat.testBit k <;> rfl
theorem prog_get (x : Chp) (hl : x.l.length = 24576) (at_ : Int) (s : List UInt8) (j : Nat) :
    (x.prog at_ s).1.l.getD j 0 = x.l.getD j 0 ∨ ((at_ ≤ j ∧ (j : Int) < at_ + s.length) ∧ (x.prog at_ s).1.l.getD j 0 &&& x.l.getD j 0 = (x.prog at_ s).1.l.getD j 0) := by
  unfold Chp.prog
  split
  · split
    · exact .inl rfl
    · split
      · rename_i h4
        unfold hasN at h4
        simp only [decide_eq_true_eq] at h4
        split
        · exact .inl rfl
        · rcases doC_get x at_.toNat s.length (prF s) (prG s) (by omega) j with h | ⟨h, h2 | ⟨t, h2⟩⟩
          · exact .inl h
          · refine .inr ⟨by omega, ?_⟩
            show (x.doC _ _ _ _).l.getD j 0 &&& _ = (x.doC _ _ _ _).l.getD j 0
            rw [h2]
            exact and_idem _ _
          · refine .inr ⟨by omega, ?_⟩
            show (x.doC _ _ _ _).l.getD j 0 &&& _ = (x.doC _ _ _ _).l.getD j 0
            rw [h2]
            exact and_idem _ _
      · exact .inl rfl
  · exact .inl rfl
theorem erase_get (x : Chp) (hl : x.l.length = 24576) (s : Int) (j : Nat) :
    (x.erase s).1.l.getD j 0 = x.l.getD j 0 ∨ ((((j / 512 : Nat) : Int) = s) ∧ (x.erase s).1.l.getD j 0 &&& x.l.getD j 0 = x.l.getD j 0) := by
  unfold Chp.erase
  split
  · split
    · exact .inl rfl
    · rcases doC_get x (s.toNat * 512) 512 erF erG (by omega) j with h | ⟨h, h2 | ⟨t, h2⟩⟩
      · exact .inl h
      · refine .inr ⟨by omega, ?_⟩
        show (x.doC _ _ _ _).l.getD j 0 &&& _ = _
        rw [h2]
        show 255 &&& _ = _
        apply UInt8.toNat_inj.1
        rw [UInt8.toNat_and]
        have := (x.l.getD j 0).toNat_lt
        show 255 &&& _ = _
        rw [Nat.and_comm]
        exact Nat.and_two_pow_sub_one_of_lt_two_pow (n := 8) this
      · refine .inr ⟨by omega, ?_⟩
        show (x.doC _ _ _ _).l.getD j 0 &&& _ = _
        rw [h2]
        exact or_absorb _ _
  · exact .inl rfl
theorem and_trans {x y z : UInt8} (h1 : y &&& x = y) (h2 : z &&& y = z) : z &&& x = z := by
  rw [← h2, UInt8.and_assoc, h1]
theorem wr_get : ∀ (m : Nat) (s : List UInt8) (x : Chp) (i : Nat), s.length ≤ m → x.l.length = 24576 → ∀ j, (x.wr i s).1.l.getD j 0 = x.l.getD j 0 ∨ ((i ≤ j ∧ j < i + s.length) ∧ (x.wr i s).1.l.getD j 0 &&& x.l.getD j 0 = (x.wr i s).1.l.getD j 0)
  | 0, s, x, i, hm, hl, j => by
    have hs : s = [] := List.eq_nil_of_length_eq_zero (by omega)
    subst hs
    rw [Chp.wr, dif_pos rfl]
    exact .inl rfl
  | m + 1, s, x, i, hm, hl, j => by
    by_cases hs : s = []
    · subst hs
      rw [Chp.wr, dif_pos rfl]
      exact .inl rfl
    · have hp := page_pos i hs
      have hp2 : page i s ≤ s.length := Nat.min_le_left _ _
      rw [Chp.wr, dif_neg hs]
      generalize page i s = n at *
      have htl : (s.take n).length = n := by simp; omega
      have h1 := prog_get x hl (i : Int) (s.take n) j
      have h2 := prog_len x (i : Int) (s.take n)
      generalize x.prog (i : Int) (s.take n) = q at *
      rw [htl] at h1
      split
      · have h3 := wr_get m (s.drop n) q.1 (i + n) (by simp; omega) (by omega) j
        simp only [List.length_drop] at h3
        rcases h3 with h3 | ⟨h3, h4⟩
        · rw [h3]
          rcases h1 with h1 | ⟨h1, h5⟩
          · exact .inl h1
          · exact .inr ⟨by omega, h5⟩
        · refine .inr ⟨by omega, ?_⟩
          rcases h1 with h1 | ⟨h1, h5⟩
          · rw [← h1]; exact h4
          · exact and_trans h5 h4
      · rcases h1 with h1 | ⟨h1, h5⟩
        · exact .inl h1
        · exact .inr ⟨by omega, h5⟩
theorem wr_len : ∀ (m : Nat) (s : List UInt8) (x : Chp) (i : Nat), s.length ≤ m → (x.wr i s).1.l.length = x.l.length
  | 0, s, x, i, hm => by
    have hs : s = [] := List.eq_nil_of_length_eq_zero (by omega)
    subst hs
    rw [Chp.wr, dif_pos rfl]
  | m + 1, s, x, i, hm => by
    by_cases hs : s = []
    · subst hs
      rw [Chp.wr, dif_pos rfl]
    · have hp := page_pos i hs
      have hp2 : page i s ≤ s.length := Nat.min_le_left _ _
      rw [Chp.wr, dif_neg hs]
      split
      · rw [wr_len m _ _ _ (by simp; omega), prog_len]
      · exact prog_len _ _ _
end Go.Proofs.Ytfilheaaacffmaa.AL
/- Rows of laws with a slice of acts. -/
set_option linter.unusedSimpArgs false
set_option linter.unusedVariables false
namespace Go.Proofs.Ytfilheaaacffmaa.AL
open Go Go.Proofs
def Act.V (a : Act) : AV := .agg a.v
end Go.Proofs.Ytfilheaaacffmaa.AL
/- Rows of laws with a slice of acts of which the numbers are in range. -/
set_option linter.unusedSimpArgs false
set_option linter.unusedVariables false
namespace Go.Proofs.Ytfilheaaacffmaa.AL
open Go Go.Proofs
end Go.Proofs.Ytfilheaaacffmaa.AL
/- Rows of laws with a slice of whole numbers. -/
set_option linter.unusedSimpArgs false
set_option linter.unusedVariables false
namespace Go.Proofs.Ytfilheaaacffmaa.AL
open Go Go.Proofs
end Go.Proofs.Ytfilheaaacffmaa.AL
/- Few acts. -/
set_option linter.unusedSimpArgs false
set_option linter.unusedVariables false
set_option maxRecDepth 100000
namespace Go.Proofs.Ytfilheaaacffmaa.AL
open Go Go.Proofs
attribute [local go_sem] go_seq go_skip go_region go_regionN go_cond go_block go_exit go_ret nxt_nil nxt_code nxt_blk nxt_cut leave_nil leave_code leave_cut leave_blk rtn_nil rtn_code rtn_blk rtn_cut cnd_t cnd_f rgn_nil rgY_some rgY_none rgH_some rgP_some retTo_is rgV_func grd_und grd_tt grd_ff grd_tf grd_ft rgn_q rgn_alloc rgn_box rgn_store rgn_lit rgn_litw litCells_nil litCells_cons rgn_app rgn_copy rgn_mk rgn_s2b rgn_call rgn_callv rgn_stop rgn_slice3 aslice3 rgn_put rgn_mkmap rgn_lookup rgn_mapup alookup_nilm alookup_map amapup_map afound_ok afound_no rgn_c rgn_cv qclV_func aloadr rgn_guard post_ret post_normal retY_some ares aresL ares1 AX.ev aput List.getD_cons_zero List.getD_cons_succ List.set_cons_zero List.set_cons_succ List.map_cons List.map_nil aq abin aint astr abeq aconv asame aextract alenS alenL_nils alenL_emp alenL_imm alenL_wr aun apart aload afieldAddr afield aidxSl_wr aidxSl_imm aidxPt aidxStr aidxArr abound asliceStr asliceSl asliceArr abest anonil afill astore acells_nils acells_emp acells_imm acells_wr acells_str acopy litAll amk as2b anil nilOf aseq aeqs aeqv fits fit1 hp_next hp_push hp_get hp_set List.length_cons List.length_nil List.getElem?_cons_zero List.getElem?_cons_succ List.cons_append List.nil_append List.append_nil List.take_succ_cons List.take_zero List.drop_succ_cons List.drop_zero List.all_cons List.all_nil Option.map_some Option.some.injEq Bool.and_true Bool.true_and Bool.false_eq_true if_true if_false ite_true ite_false Bool.and_self true_and and_true and_self Nat.zero_add Nat.le_refl Int.toNat_natCast beq_self_eq_true eq_self tops_zero tops_succ Int.natCast_nonneg List.take_nil List.drop_nil Option.map_none flat_bool one_bool cells_bool flat_int one_int cells_int flat_str one_str cells_str flat_nilp one_nilp cells_nilp flat_ptr one_ptr cells_ptr flat_nils one_nils cells_nils flat_imm one_imm cells_imm flat_wr one_wr cells_wr flat_func one_func cells_func flat_nilf one_nilf cells_nilf flat_map one_map cells_map flat_nilm one_nilm cells_nilm flat_iface one_iface cells_iface flat_nili one_nili cells_nili flat_rd one_rd cells_rd flat_emp one_emp cells_emp flat_byteV one_byteV cells_byteV flat_agg cells_agg one_agg B_size B_list B_ext B_toList B_app List.take_length Int.le_refl
theorem V_cells (a : Act) : (Act.V a).cells = [.int .i64 a.kind, .int .i64 a.at_, .int .i64 a.n, .str (B a.s)] := rfl
end Go.Proofs.Ytfilheaaacffmaa.AL
/- Programming sets no bit, erasing clears none: the law. -/
set_option linter.unusedSimpArgs false
set_option linter.unusedVariables false
set_option maxRecDepth 100000
namespace Go.Proofs.Ytfilheaaacffmaa.AL
open Go Go.Proofs
attribute [local go_sem] go_seq go_skip go_region go_regionN go_cond go_block go_exit go_ret nxt_nil nxt_code nxt_blk nxt_cut leave_nil leave_code leave_cut leave_blk rtn_nil rtn_code rtn_blk rtn_cut cnd_t cnd_f rgn_nil rgY_some rgY_none rgH_some rgP_some retTo_is rgV_func grd_und grd_tt grd_ff grd_tf grd_ft rgn_q rgn_alloc rgn_box rgn_store rgn_lit rgn_litw litCells_nil litCells_cons rgn_app rgn_copy rgn_mk rgn_s2b rgn_call rgn_callv rgn_stop rgn_slice3 aslice3 rgn_put rgn_mkmap rgn_lookup rgn_mapup alookup_nilm alookup_map amapup_map afound_ok afound_no rgn_c rgn_cv qclV_func aloadr rgn_guard post_ret post_normal retY_some ares aresL ares1 AX.ev aput List.getD_cons_zero List.getD_cons_succ List.set_cons_zero List.set_cons_succ List.map_cons List.map_nil aq abin aint astr abeq aconv asame aextract alenS alenL_nils alenL_emp alenL_imm alenL_wr aun apart aload afieldAddr afield aidxSl_wr aidxSl_imm aidxPt aidxStr aidxArr abound asliceStr asliceSl asliceArr abest anonil afill astore acells_nils acells_emp acells_imm acells_wr acells_str acopy litAll amk as2b anil nilOf aseq aeqs aeqv fits fit1 hp_next hp_push hp_get hp_set List.length_cons List.length_nil List.getElem?_cons_zero List.getElem?_cons_succ List.cons_append List.nil_append List.append_nil List.take_succ_cons List.take_zero List.drop_succ_cons List.drop_zero List.all_cons List.all_nil Option.map_some Option.some.injEq Bool.and_true Bool.true_and Bool.false_eq_true if_true if_false ite_true ite_false Bool.and_self true_and and_true and_self Nat.zero_add Nat.le_refl Int.toNat_natCast beq_self_eq_true eq_self tops_zero tops_succ Int.natCast_nonneg List.take_nil List.drop_nil Option.map_none flat_bool one_bool cells_bool flat_int one_int cells_int flat_str one_str cells_str flat_nilp one_nilp cells_nilp flat_ptr one_ptr cells_ptr flat_nils one_nils cells_nils flat_imm one_imm cells_imm flat_wr one_wr cells_wr flat_func one_func cells_func flat_nilf one_nilf cells_nilf flat_map one_map cells_map flat_nilm one_nilm cells_nilm flat_iface one_iface cells_iface flat_nili one_nili cells_nili flat_rd one_rd cells_rd flat_emp one_emp cells_emp flat_byteV one_byteV cells_byteV flat_agg cells_agg one_agg B_size B_list B_ext B_toList B_app List.take_length Int.le_refl
end Go.Proofs.Ytfilheaaacffmaa.AL
/- The document's flash told: loading, the fuse, reading. -/
set_option linter.unusedSimpArgs false
set_option linter.unusedVariables false
set_option maxRecDepth 100000
namespace Go.Proofs.Ytfilheaaacffmaa.AL
open Go Go.Proofs
attribute [local go_sem] go_seq go_skip go_region go_regionN go_cond go_block go_exit go_ret nxt_nil nxt_code nxt_blk nxt_cut leave_nil leave_code leave_cut leave_blk rtn_nil rtn_code rtn_blk rtn_cut cnd_t cnd_f rgn_nil rgY_some rgY_none rgH_some rgP_some retTo_is rgV_func grd_und grd_tt grd_ff grd_tf grd_ft rgn_q rgn_alloc rgn_box rgn_store rgn_lit rgn_litw litCells_nil litCells_cons rgn_app rgn_copy rgn_mk rgn_s2b rgn_call rgn_callv rgn_stop rgn_slice3 aslice3 rgn_put rgn_mkmap rgn_lookup rgn_mapup alookup_nilm alookup_map amapup_map afound_ok afound_no rgn_c rgn_cv qclV_func aloadr rgn_guard post_ret post_normal retY_some ares aresL ares1 AX.ev aput List.getD_cons_zero List.getD_cons_succ List.set_cons_zero List.set_cons_succ List.map_cons List.map_nil aq abin aint astr abeq aconv asame aextract alenS alenL_nils alenL_emp alenL_imm alenL_wr aun apart aload afieldAddr afield aidxSl_wr aidxSl_imm aidxPt aidxStr aidxArr abound asliceStr asliceSl asliceArr abest anonil afill astore acells_nils acells_emp acells_imm acells_wr acells_str acopy litAll amk as2b anil nilOf aseq aeqs aeqv fits fit1 hp_next hp_push hp_get hp_set List.length_cons List.length_nil List.getElem?_cons_zero List.getElem?_cons_succ List.cons_append List.nil_append List.append_nil List.take_succ_cons List.take_zero List.drop_succ_cons List.drop_zero List.all_cons List.all_nil Option.map_some Option.some.injEq Bool.and_true Bool.true_and Bool.false_eq_true if_true if_false ite_true ite_false Bool.and_self true_and and_true and_self Nat.zero_add Nat.le_refl Int.toNat_natCast beq_self_eq_true eq_self tops_zero tops_succ Int.natCast_nonneg List.take_nil List.drop_nil Option.map_none flat_bool one_bool cells_bool flat_int one_int cells_int flat_str one_str cells_str flat_nilp one_nilp cells_nilp flat_ptr one_ptr cells_ptr flat_nils one_nils cells_nils flat_imm one_imm cells_imm flat_wr one_wr cells_wr flat_func one_func cells_func flat_nilf one_nilf cells_nilf flat_map one_map cells_map flat_nilm one_nilm cells_nilm flat_iface one_iface cells_iface flat_nili one_nili cells_nili flat_rd one_rd cells_rd flat_emp one_emp cells_emp flat_byteV one_byteV cells_byteV flat_agg cells_agg one_agg B_size B_list B_ext B_toList B_app List.take_length Int.le_refl
end Go.Proofs.Ytfilheaaacffmaa.AL
/- The document's flash told: erasing, programming, writing. -/
set_option linter.unusedSimpArgs false
set_option linter.unusedVariables false
set_option maxRecDepth 100000
set_option maxHeartbeats 16000000
namespace Go.Proofs.Ytfilheaaacffmaa.AL
open Go Go.Proofs
attribute [local go_sem] go_seq go_skip go_region go_regionN go_cond go_block go_exit go_ret nxt_nil nxt_code nxt_blk nxt_cut leave_nil leave_code leave_cut leave_blk rtn_nil rtn_code rtn_blk rtn_cut cnd_t cnd_f rgn_nil rgY_some rgY_none rgH_some rgP_some retTo_is rgV_func grd_und grd_tt grd_ff grd_tf grd_ft rgn_q rgn_alloc rgn_box rgn_store rgn_lit rgn_litw litCells_nil litCells_cons rgn_app rgn_copy rgn_mk rgn_s2b rgn_call rgn_callv rgn_stop rgn_slice3 aslice3 rgn_put rgn_mkmap rgn_lookup rgn_mapup alookup_nilm alookup_map amapup_map afound_ok afound_no rgn_c rgn_cv qclV_func aloadr rgn_guard post_ret post_normal retY_some ares aresL ares1 AX.ev aput List.getD_cons_zero List.getD_cons_succ List.set_cons_zero List.set_cons_succ List.map_cons List.map_nil aq abin aint astr abeq aconv asame aextract alenS alenL_nils alenL_emp alenL_imm alenL_wr aun apart aload afieldAddr afield aidxSl_wr aidxSl_imm aidxPt aidxStr aidxArr abound asliceStr asliceSl asliceArr abest anonil afill astore acells_nils acells_emp acells_imm acells_wr acells_str acopy litAll amk as2b anil nilOf aseq aeqs aeqv fits fit1 hp_next hp_push hp_get hp_set List.length_cons List.length_nil List.getElem?_cons_zero List.getElem?_cons_succ List.cons_append List.nil_append List.append_nil List.take_succ_cons List.take_zero List.drop_succ_cons List.drop_zero List.all_cons List.all_nil Option.map_some Option.some.injEq Bool.and_true Bool.true_and Bool.false_eq_true if_true if_false ite_true ite_false Bool.and_self true_and and_true and_self Nat.zero_add Nat.le_refl Int.toNat_natCast beq_self_eq_true eq_self tops_zero tops_succ Int.natCast_nonneg List.take_nil List.drop_nil Option.map_none flat_bool one_bool cells_bool flat_int one_int cells_int flat_str one_str cells_str flat_nilp one_nilp cells_nilp flat_ptr one_ptr cells_ptr flat_nils one_nils cells_nils flat_imm one_imm cells_imm flat_wr one_wr cells_wr flat_func one_func cells_func flat_nilf one_nilf cells_nilf flat_map one_map cells_map flat_nilm one_nilm cells_nilm flat_iface one_iface cells_iface flat_nili one_nili cells_nili flat_rd one_rd cells_rd flat_emp one_emp cells_emp flat_byteV one_byteV cells_byteV flat_agg cells_agg one_agg B_size B_list B_ext B_toList B_app List.take_length Int.le_refl
end Go.Proofs.Ytfilheaaacffmaa.AL
/- What the document does with an act, and flashes that nobody made. -/
set_option linter.unusedSimpArgs false
set_option linter.unusedVariables false
set_option maxRecDepth 100000
set_option maxHeartbeats 16000000
namespace Go.Proofs.Ytfilheaaacffmaa.AL
open Go Go.Proofs
attribute [local go_sem] go_seq go_skip go_region go_regionN go_cond go_block go_exit go_ret nxt_nil nxt_code nxt_blk nxt_cut leave_nil leave_code leave_cut leave_blk rtn_nil rtn_code rtn_blk rtn_cut cnd_t cnd_f rgn_nil rgY_some rgY_none rgH_some rgP_some retTo_is rgV_func grd_und grd_tt grd_ff grd_tf grd_ft rgn_q rgn_alloc rgn_box rgn_store rgn_lit rgn_litw litCells_nil litCells_cons rgn_app rgn_copy rgn_mk rgn_s2b rgn_call rgn_callv rgn_stop rgn_slice3 aslice3 rgn_put rgn_mkmap rgn_lookup rgn_mapup alookup_nilm alookup_map amapup_map afound_ok afound_no rgn_c rgn_cv qclV_func aloadr rgn_guard post_ret post_normal retY_some ares aresL ares1 AX.ev aput List.getD_cons_zero List.getD_cons_succ List.set_cons_zero List.set_cons_succ List.map_cons List.map_nil aq abin aint astr abeq aconv asame aextract alenS alenL_nils alenL_emp alenL_imm alenL_wr aun apart aload afieldAddr afield aidxSl_wr aidxSl_imm aidxPt aidxStr aidxArr abound asliceStr asliceSl asliceArr abest anonil afill astore acells_nils acells_emp acells_imm acells_wr acells_str acopy litAll amk as2b anil nilOf aseq aeqs aeqv fits fit1 hp_next hp_push hp_get hp_set List.length_cons List.length_nil List.getElem?_cons_zero List.getElem?_cons_succ List.cons_append List.nil_append List.append_nil List.take_succ_cons List.take_zero List.drop_succ_cons List.drop_zero List.all_cons List.all_nil Option.map_some Option.some.injEq Bool.and_true Bool.true_and Bool.false_eq_true if_true if_false ite_true ite_false Bool.and_self true_and and_true and_self Nat.zero_add Nat.le_refl Int.toNat_natCast beq_self_eq_true eq_self tops_zero tops_succ Int.natCast_nonneg List.take_nil List.drop_nil Option.map_none flat_bool one_bool cells_bool flat_int one_int cells_int flat_str one_str cells_str flat_nilp one_nilp cells_nilp flat_ptr one_ptr cells_ptr flat_nils one_nils cells_nils flat_imm one_imm cells_imm flat_wr one_wr cells_wr flat_func one_func cells_func flat_nilf one_nilf cells_nilf flat_map one_map cells_map flat_nilm one_nilm cells_nilm flat_iface one_iface cells_iface flat_nili one_nili cells_nili flat_rd one_rd cells_rd flat_emp one_emp cells_emp flat_byteV one_byteV cells_byteV flat_agg cells_agg one_agg B_size B_list B_ext B_toList B_app List.take_length Int.le_refl
def zc (f : Int) (t : List UInt8) : AObj := .row 110 0 [.nils, .bool false, .int .i64 f, .str (B t), .int .i64 0]
section
variable {H : AHeap} {z : Nat} {f : Int} {t : List UInt8} (hz : H.get z = some (zc f t)) {K : AV → AHeap → Prop}
include hz
end
end Go.Proofs.Ytfilheaaacffmaa.AL
/- Whatever is done, the flash is the document's: the law. -/
set_option linter.unusedSimpArgs false
set_option linter.unusedVariables false
set_option maxRecDepth 100000
set_option maxHeartbeats 16000000
namespace Go.Proofs.Ytfilheaaacffmaa.AL
open Go Go.Proofs
attribute [local go_sem] go_seq go_skip go_region go_regionN go_cond go_block go_exit go_ret nxt_nil nxt_code nxt_blk nxt_cut leave_nil leave_code leave_cut leave_blk rtn_nil rtn_code rtn_blk rtn_cut cnd_t cnd_f rgn_nil rgY_some rgY_none rgH_some rgP_some retTo_is rgV_func grd_und grd_tt grd_ff grd_tf grd_ft rgn_q rgn_alloc rgn_box rgn_store rgn_lit rgn_litw litCells_nil litCells_cons rgn_app rgn_copy rgn_mk rgn_s2b rgn_call rgn_callv rgn_stop rgn_slice3 aslice3 rgn_put rgn_mkmap rgn_lookup rgn_mapup alookup_nilm alookup_map amapup_map afound_ok afound_no rgn_c rgn_cv qclV_func aloadr rgn_guard post_ret post_normal retY_some ares aresL ares1 AX.ev aput List.getD_cons_zero List.getD_cons_succ List.set_cons_zero List.set_cons_succ List.map_cons List.map_nil aq abin aint astr abeq aconv asame aextract alenS alenL_nils alenL_emp alenL_imm alenL_wr aun apart aload afieldAddr afield aidxSl_wr aidxSl_imm aidxPt aidxStr aidxArr abound asliceStr asliceSl asliceArr abest anonil afill astore acells_nils acells_emp acells_imm acells_wr acells_str acopy litAll amk as2b anil nilOf aseq aeqs aeqv fits fit1 hp_next hp_push hp_get hp_set List.length_cons List.length_nil List.getElem?_cons_zero List.getElem?_cons_succ List.cons_append List.nil_append List.append_nil List.take_succ_cons List.take_zero List.drop_succ_cons List.drop_zero List.all_cons List.all_nil Option.map_some Option.some.injEq Bool.and_true Bool.true_and Bool.false_eq_true if_true if_false ite_true ite_false Bool.and_self true_and and_true and_self Nat.zero_add Nat.le_refl Int.toNat_natCast beq_self_eq_true eq_self tops_zero tops_succ Int.natCast_nonneg List.take_nil List.drop_nil Option.map_none flat_bool one_bool cells_bool flat_int one_int cells_int flat_str one_str cells_str flat_nilp one_nilp cells_nilp flat_ptr one_ptr cells_ptr flat_nils one_nils cells_nils flat_imm one_imm cells_imm flat_wr one_wr cells_wr flat_func one_func cells_func flat_nilf one_nilf cells_nilf flat_map one_map cells_map flat_nilm one_nilm cells_nilm flat_iface one_iface cells_iface flat_nili one_nili cells_nili flat_rd one_rd cells_rd flat_emp one_emp cells_emp flat_byteV one_byteV cells_byteV flat_agg cells_agg one_agg B_size B_list B_ext B_toList B_app List.take_length Int.le_refl
end Go.Proofs.Ytfilheaaacffmaa.AL
/- Few acts, however many few are. -/
set_option linter.unusedSimpArgs false
set_option linter.unusedVariables false
set_option maxRecDepth 100000
namespace Go.Proofs.Ytfilheaaacffmaa.AL
open Go Go.Proofs
attribute [local go_sem] go_seq go_skip go_region go_regionN go_cond go_block go_exit go_ret nxt_nil nxt_code nxt_blk nxt_cut leave_nil leave_code leave_cut leave_blk rtn_nil rtn_code rtn_blk rtn_cut cnd_t cnd_f rgn_nil rgY_some rgY_none rgH_some rgP_some retTo_is rgV_func grd_und grd_tt grd_ff grd_tf grd_ft rgn_q rgn_alloc rgn_box rgn_store rgn_lit rgn_litw litCells_nil litCells_cons rgn_app rgn_copy rgn_mk rgn_s2b rgn_call rgn_callv rgn_stop rgn_slice3 aslice3 rgn_put rgn_mkmap rgn_lookup rgn_mapup alookup_nilm alookup_map amapup_map afound_ok afound_no rgn_c rgn_cv qclV_func aloadr rgn_guard post_ret post_normal retY_some ares aresL ares1 AX.ev aput List.getD_cons_zero List.getD_cons_succ List.set_cons_zero List.set_cons_succ List.map_cons List.map_nil aq abin aint astr abeq aconv asame aextract alenS alenL_nils alenL_emp alenL_imm alenL_wr aun apart aload afieldAddr afield aidxSl_wr aidxSl_imm aidxPt aidxStr aidxArr abound asliceStr asliceSl asliceArr abest anonil afill astore acells_nils acells_emp acells_imm acells_wr acells_str acopy litAll amk as2b anil nilOf aseq aeqs aeqv fits fit1 hp_next hp_push hp_get hp_set List.length_cons List.length_nil List.getElem?_cons_zero List.getElem?_cons_succ List.cons_append List.nil_append List.append_nil List.take_succ_cons List.take_zero List.drop_succ_cons List.drop_zero List.all_cons List.all_nil Option.map_some Option.some.injEq Bool.and_true Bool.true_and Bool.false_eq_true if_true if_false ite_true ite_false Bool.and_self true_and and_true and_self Nat.zero_add Nat.le_refl Int.toNat_natCast beq_self_eq_true eq_self tops_zero tops_succ Int.natCast_nonneg List.take_nil List.drop_nil Option.map_none flat_bool one_bool cells_bool flat_int one_int cells_int flat_str one_str cells_str flat_nilp one_nilp cells_nilp flat_ptr one_ptr cells_ptr flat_nils one_nils cells_nils flat_imm one_imm cells_imm flat_wr one_wr cells_wr flat_func one_func cells_func flat_nilf one_nilf cells_nilf flat_map one_map cells_map flat_nilm one_nilm cells_nilm flat_iface one_iface cells_iface flat_nili one_nili cells_nili flat_rd one_rd cells_rd flat_emp one_emp cells_emp flat_byteV one_byteV cells_byteV flat_agg cells_agg one_agg B_size B_list B_ext B_toList B_app List.take_length Int.le_refl
end Go.Proofs.Ytfilheaaacffmaa.AL

