/- Cells told: a step, and all the way up. -/
import Derived.Test.YtmdgjfadbhenjaaGreatDoorQCellsUpALCe2
import Derived.Test.YtmdgjfadbhenjaaGreatDoorQCellsUpALA4
import Derived.Test.YtmdgjfadbhenjaaGreatDoorProg
import Derived.Lib.Overlaps
import Derived.KernelRfl
import Derived.Test.YtmdgjfadbhenjaaGreatDoorQCellsUpALA3
import Derived.Test.YtmdgjfadbhenjaaGreatDoorQCellsUpALVal1
import Derived.Test.YtmdgjfadbhenjaaGreatDoorQCellsUpALTree1
import Derived.Test.YtmdgjfadbhenjaaGreatDoorQCellsUpALDCe
import Derived.Shelf.SlSortCmp.NoneTotal
set_option linter.unusedSimpArgs false
set_option linter.unusedVariables false
set_option maxRecDepth 100000
set_option maxHeartbeats 16000000
namespace Go.Proofs.YtmdgjfadbhenjaaGreatDoor.AL
open Go Go.Proofs
attribute [local go_sem] go_seq go_skip go_region go_regionN go_fregion rgF_some go_cond go_block go_exit go_ret nxt_nil nxt_code nxt_blk nxt_cut leave_nil leave_code leave_cut leave_blk rtn_nil rtn_code rtn_blk rtn_cut cnd_t cnd_f rgn_nil rgY_some rgY_none rgH_some rgP_some retTo_is rgV_func grd_und grd_tt grd_ff grd_tf grd_ft rgn_q rgn_alloc rgn_box rgn_store rgn_lit rgn_litw rgn_litc litCells_nil litCells_cons rgn_app rgn_copy rgn_mk rgn_s2b rgn_call rgn_callv rgn_stop rgn_slice3 aslice3 rgn_slice3l aslice3l rgn_appz rgn_clear rgn_range rgn_next arange acap rgn_put rgn_mkmap rgn_lookup rgn_mapup alookup_nilm alookup_map amapup_map afound_ok afound_no rgn_c rgn_cv qclV_func aloadr rgn_guard post_ret post_normal retY_some ares aresL ares1 AX.ev aput List.getD_cons_zero List.getD_cons_succ List.set_cons_zero List.set_cons_succ List.map_cons List.map_nil aq abin aint astr abeq aconv asame aextract alenS alenL_nils alenL_emp alenL_imm alenL_wr alenL_wc aun apart aload afieldAddr afield aidxSl_wr aidxSl_wc aidxSl_imm aidxPt aidxStr aidxArr abound asliceStr asliceSl asliceArr abest anonil afill astore acells_nils acells_emp acells_imm acells_wr acells_wc acells_str acopy litAll amk as2b anil nilOf aseq aeqs aeqv fits fit1 hp_next hp_push hp_get hp_set List.length_cons List.length_nil List.getElem?_cons_zero List.getElem?_cons_succ List.cons_append List.nil_append List.append_nil List.take_succ_cons List.take_zero List.drop_succ_cons List.drop_zero List.all_cons List.all_nil Option.map_some Option.some.injEq Bool.and_true Bool.true_and Bool.false_eq_true if_true if_false ite_true ite_false Bool.and_self true_and and_true and_self Nat.zero_add Nat.le_refl Int.toNat_natCast beq_self_eq_true eq_self tops_zero tops_succ Int.natCast_nonneg List.take_nil List.drop_nil Option.map_none flat_bool one_bool cells_bool flat_int one_int cells_int flat_str one_str cells_str flat_nilp one_nilp cells_nilp flat_ptr one_ptr cells_ptr flat_nils one_nils cells_nils flat_imm one_imm cells_imm flat_wr one_wr cells_wr flat_wc one_wc cells_wc flat_func one_func cells_func flat_nilf one_nilf cells_nilf flat_map one_map cells_map flat_nilm one_nilm cells_nilm flat_iface one_iface cells_iface flat_nili one_nili cells_nili flat_rd one_rd cells_rd flat_emp one_emp cells_emp flat_byteV one_byteV cells_byteV flat_agg cells_agg one_agg B_size B_list B_ext B_toList B_app List.take_length Int.le_refl
theorem in32_is {n : Int} : in32 n = true ↔ 0 ≤ n ∧ n ≤ 4294967295 := by
  unfold in32
  simp only [Bool.and_eq_true, decide_eq_true_eq]
theorem all_one1 (n : Int) : List.all [n] in32 = in32 n := by simp
theorem thruS_32 {l : List (List Int)} {at_ : Int} : (thruS l at_).2 = 0 → 0 ≤ (thruS l at_).1 ∧ (thruS l at_).1 ≤ 4294967295 := by
  unfold thruS
  split
  · intro h; cases h
  · split
    · rename_i h
      intro _
      exact in32_is.1 h
    · intro h; cases h
theorem stepS_32 {t : Tr} {p : List UInt8} {at_ : Int} (h : (stepS t p at_).2 = 0) : 0 ≤ (stepS t p at_).1 ∧ (stepS t p at_).1 ≤ 4294967295 := by
  unfold stepS at h ⊢
  split at h
  · cases h
  · split at h
    · rename_i ha
      rw [if_pos ha]
      split at h
      · cases h
      · split at h
        · rename_i hv
          rw [if_pos hv]
          exact in32_is.1 ha
        · rename_i hv
          rw [if_neg hv]
          split at h
          · split at h
            · rename_i he
              rw [if_pos he]
              exact thruS_32 h
            · rename_i he
              exact absurd h he
          · cases h
    · cases h
section
variable {H : AHeap} {K : AV → AHeap → Prop}
theorem step_a {n : Nat} {t : Tr} {p : List UInt8} {at_ : Int} (hn : n ≤ 100000) (hm : TrM n t) (hp_ : p.length ≤ 5000) (h : K (.tup [.int .i64 (stepS t p at_).1, .int .i64 (stepS t p at_).2]) H) : (ACalls Tryz.prog) 37 [t.V, .str (B p), .int .i64 at_] H K := by
  refine acalls_go mo t37 (fun hs hu => ?_)
  have ho := trm_ok (by omega) hm
  have hVi := Tr.V_is t
  have e0 : tr0.V = .agg [.str (B []), .nils, .nils] := tr0_V
  obtain ⟨m1, m2⟩ := famO_m (p := p) hm
  unfold stepS kRng at h
  simp only [c37, Tr.V_is, go_sem, Nat.reduceLeDiff, Nat.reduceAdd, Nat.reduceSub, Nat.reduceMul, Nat.reduceLT, Int.reduceLT, Int.reduceLE, Int.reduceAdd, Int.reduceSub, Int.reduceMul, Int.reduceToNat, Int.reduceNeg, Int.reduceEq, Nat.reducePow, Int.reducePow, Nat.reduceEqDiff, decide_true, decide_false, reduceIte, reduceCtorEq, Int.reduceBEq, Int.reduceBNe, bne_self_eq_false, Int.cast_ofNat_Int, Bool.not_true, Bool.not_false, IntKind.bits]
  rw [← hVi]
  refine family_a hn hm hp_ ?_
  cases hf : famO t p with
  | none =>
    rw [hf] at h
    have hx : K (.tup [.int .i64 0, .int .i64 8]) H := h
    rw [show famV none = .tup [tr0.V, tr0.V, .bool false] from rfl, e0]
    refine stp0 ?_
    rw [← e0]
    refine Value_a (trm_ok (n := n) (by omega) (trm_0 _)) ?_
    rw [valV_is, e0]
    refine stp0 ?_
    exact aret_u hs (hx)
  | some ku =>
    obtain ⟨kd, up⟩ := ku
    rw [hf] at h m1 m2
    have m1 : TrM n kd := m1
    have m2 : TrM n up := m2
    simp only at h
    have hVk := Tr.V_is kd
    have hVu := Tr.V_is up
    rw [show famV (some (kd, up)) = .tup [kd.V, up.V, .bool true] from rfl, hVk, hVu]
    refine stp0 ?_
    rw [← hVk]
    refine Value_a (trm_ok (by omega) m1) ?_
    rw [hVk]
    have hsl : AV.imm 1 [AV.int .i64 at_] = slA 2 1 ([at_].map (AV.int .i64)) := rfl
    by_cases ha : in32 at_ = true
    · rw [if_pos ha] at h
      have ha2 := in32_is.1 ha
      cases hv : valT kd [114, 97, 110, 103, 101, 115] with
      | none =>
        rw [hv] at h
        have hx : K (.tup [.int .i64 0, .int .i64 8]) H := h
        rw [show valV none = .tup [.str (B []), .bool false] from rfl]
        refine stp0 ?_
        rw [hsl]
        refine within_a (by simp) ?_
        rw [all_one1, ha]
        refine stp0 ?_
        exact aret_u hs (hx)
      | some v =>
        have hvl := valT_m m1 hv
        rw [hv] at h
        simp only at h
        rw [show valV (some v) = .tup [.str (B v), .bool true] from rfl]
        by_cases hv0 : v = []
        · rw [if_pos hv0] at h
          subst hv0
          have hx : K (.tup [.int .i64 at_, .int .i64 0]) H := h
          refine stp0 ?_
          rw [hsl]
          refine within_a (by simp) ?_
          rw [all_one1, ha]
          refine stp0 ?_
          exact aret_u hs (hx)
        · rw [if_neg hv0] at h
          refine stp0 ?_
          rw [hsl]
          refine within_a (by simp) ?_
          rw [all_one1, ha]
          refine stp hv0 ?_
          rw [← hVk]
          refine cells_a (trm_ok (by omega) m1) (fun nm w hw => valT_m m1 hw) ?_
          rw [hVk]
          cases hc : cellsO kd with
          | none =>
            rw [hc] at h
            have hx : K (.tup [.int .i64 0, .int .i64 6]) H := h
            rw [show cellsV none = .tup [.int .i64 0, .int .i64 0, .bool false] from rfl]
            refine stp0 ?_
            rw [← hVu]
            refine cells_a (trm_ok (by omega) m2) (fun nm w hw => valT_m m2 hw) ?_
            rw [hVu, cellsV_is]
            generalize cellsO up = z
            refine stp0 ?_
            exact aret_u hs (hx)
          | some pr =>
            obtain ⟨a, s⟩ := pr
            obtain ⟨c1, c2, c3⟩ := cellsO_le hc
            rw [hc] at h
            rw [show cellsV (some (a, s)) = .tup [.int .i64 (a : Int), .int .i64 (s : Int), .bool true] from rfl]
            refine stp0 ?_
            rw [← hVu]
            refine cells_a (trm_ok (by omega) m2) (fun nm w hw => valT_m m2 hw) ?_
            rw [hVu]
            cases hc2 : cellsO up with
            | none =>
              rw [hc2] at h
              have hx : K (.tup [.int .i64 0, .int .i64 6]) H := h
              rw [show cellsV none = .tup [.int .i64 0, .int .i64 0, .bool false] from rfl]
              refine stp0 ?_
              exact aret_u hs (hx)
            | some pr =>
              obtain ⟨b, s2⟩ := pr
              obtain ⟨d1, d2, d3⟩ := cellsO_le hc2
              rw [hc2] at h
              simp only at h
              rw [show cellsV (some (b, s2)) = .tup [.int .i64 (b : Int), .int .i64 (s2 : Int), .bool true] from rfl]
              refine stp0 ?_
              rw [show ([AV.int .i64 (a : Int), .int .i64 (b : Int), .int .i64 (s : Int)] : List AV) = [a, b, s].map colV from rfl]
              refine rows_a (by omega) (by simp) (by simp) (fun c hc => by simp only [List.mem_cons, List.mem_nil_iff, or_false] at hc; rcases hc with rfl | rfl | rfl <;> omega) (fun k => ?_)
              obtain ⟨r1, r2⟩ := rowsS_32 v [a, b, s]
              rw [show ([a, b, s].map colV) = ([AV.int .i64 (a : Int), .int .i64 (b : Int), .int .i64 (s : Int)] : List AV) from rfl]
              generalize rowsS v [a, b, s] = R at *
              by_cases he : R.2 = 0
              · rw [if_pos he] at h
                refine stp he ?_
                refine thru_a (by omega) r2 ha2 ?_
                refine stp0 ?_
                exact aret_u hs (h)
              · rw [if_neg he] at h
                refine stp he ?_
                exact aret_u hs (h)
    · rw [if_neg ha] at h
      have hx : K (.tup [.int .i64 0, .int .i64 1]) H := h
      rw [Bool.not_eq_true] at ha
      rw [valV_is]
      refine stp0 ?_
      rw [hsl]
      refine within_a (by simp) ?_
      rw [all_one1, ha]
      refine stp0 ?_
      exact aret_u hs (hx)
theorem up_a {n : Nat} {t : Tr} {p : List UInt8} {at_ : Int} (hn : n ≤ 100000) (hm : TrM n t) (hp_ : p.length ≤ 900) (h : K (.tup [.int .i64 (upS t p at_).1, .int .i64 (upS t p at_).2]) H) : (ACalls Tryz.prog) 39 [t.V, .str (B p), .int .i64 at_] H K := by
  refine acalls_go mo t39 (fun hs hu => ?_)
  have ho := trm_ok (by omega) hm
  have hVi := Tr.V_is t
  have e0 : tr0.V = .agg [.str (B []), .nils, .nils] := tr0_V
  unfold upS at h
  simp only [c39, Tr.V_is, go_sem, Nat.reduceLeDiff, Nat.reduceAdd, Nat.reduceSub, Nat.reduceMul, Nat.reduceLT, Int.reduceLT, Int.reduceLE, Int.reduceAdd, Int.reduceSub, Int.reduceMul, Int.reduceToNat, Int.reduceNeg, Int.reduceEq, Nat.reducePow, Int.reducePow, Nat.reduceEqDiff, decide_true, decide_false, reduceIte, reduceCtorEq, Int.reduceBEq, Int.reduceBNe, bne_self_eq_false, Int.cast_ofNat_Int, Bool.not_true, Bool.not_false, IntKind.bits]
  refine Parts_a (by omega) (fun k => ?_)
  cases hpp : partsP p with
  | none =>
    rw [hpp] at h
    have hx : K (.tup [.int .i64 0, .int .i64 8]) H := h
    rw [partsV_n]
    refine stp0 ?_
    rw [← hVi]
    refine Find_a ho (by omega) ?_
    rw [foundV_is]
    generalize findT t p = fz at *
    refine stp0 ?_
    exact aret_u hs (hx)
  | some ns =>
    rw [hpp] at h
    rw [partsV_s]
    refine stp0 ?_
    rw [← hVi]
    refine Find_a ho (by omega) ?_
    cases hf : findT t p with
    | none =>
      rw [hf] at h
      have hx : K (.tup [.int .i64 0, .int .i64 8]) H := h
      rw [foundV_n]
      refine stp0 ?_
      exact aret_u hs (hx)
    | some x =>
      rw [hf] at h
      simp only at h
      rw [foundV_s, hVi]
      have hsl : AV.imm 1 [AV.int .i64 at_] = slA 2 1 ([at_].map (AV.int .i64)) := rfl
      refine stp0 ?_
      rw [hsl]
      refine within_a (by simp) ?_
      rw [all_one1]
      by_cases ha : in32 at_ = true
      · rw [if_pos ha] at h
        rw [ha]
        have h8 := partsP_le hpp
        refine stp0 ?_
        refine go_loopS mono (σ := Nat × Int) (fun z => [(2, .int .i64 z.2), (12, .int .i64 (z.1 : Int))]) (fun z => hp H [trRow t, trRow x]) (fun z => z.1 ≤ ns.length ∧ upL t ns z.1 z.2 = upL t ns ns.length at_) (fun z => z.1) (ns.length, at_) ?_ (by simp only [trRow_is]) ⟨Nat.le_refl _, rfl⟩ (fun z hz J hJ => ?_)
        · exact fgt
        obtain ⟨i, b⟩ := z
        obtain ⟨hil, hup⟩ := hz
        simp only at hil hup
        have hrt := trRow_is t
        have hrx := trRow_is x
        rw [hrt, hrx] at hJ ⊢
        simp only [blurR_nil, blurR_some, blurR_none, blurC_region, blurC_regionN, blurC_fregion, blurT_nil, blurT_cons, blurC_seq, blurC_both, blurC_cond, blurC_block, blurC_loop, blurC_skip, blurC_exit, blurC_ret, tellS_nil, tellS_cons, List.set_cons_zero, List.set_cons_succ, tops_zero, tops_succ]
        cases i with
        | zero =>
          rw [upL] at hup
          rw [← hup] at h
          refine stp0 ?_
          exact aret_u hs (h)
        | succ i =>
          rw [upL] at hup
          have hJ2 := fun (b2 : Int) p1 a' => hJ (i, b2) a' ⟨by show i ≤ ns.length; omega, p1⟩ (by show i < i + 1; omega)
          clear hJ
          have hil : i + 1 ≤ ns.length := hil
          obtain ⟨j1, j2, j3⟩ := joins_le hpp (by omega) (i + 1)
          have hjl : (joinPs (ns.take (i + 1))).length ≤ 5000 := by
            have hj := joinPs_le hpp (i + 1)
            omega
          obtain ⟨k2, e2⟩ := slA_cut k 1 (ns.map strV) (i := i + 1) (by rw [List.length_map]; omega)
          rw [← List.map_take] at e2
          simp only [asliceSl, abound] at e2
          refine stp e2 ?_
          refine ⟨_, Join_a j1 j2 ⟨rfl, rfl⟩, ?_⟩
          refine stp0 ?_
          rw [← hVi]
          refine step_a hn hm hjl ?_
          generalize stepS t (joinPs (ns.take (i + 1))) b = r at *
          rw [hVi]
          by_cases he : r.2 = 0
          · rw [if_pos he] at hup
            refine stp he ?_
            exact hJ2 r.1 hup _ fgt
          · rw [if_neg he] at hup
            rw [← hup] at h
            refine stp he ?_
            exact aret_u hs (h)
      · rw [if_neg ha] at h
        have hx : K (.tup [.int .i64 0, .int .i64 1]) H := h
        rw [Bool.not_eq_true] at ha
        rw [ha]
        refine stp0 ?_
        exact aret_u hs (hx)
end
section
variable {H : AHeap} {K : AV → AHeap → Prop}
end
section
variable {H : AHeap} {K : AV → AHeap → Prop}
end
/-- A node's family, where there is such a node. -/
theorem fam_cases (t : Tr) (p : List UInt8) : (findT t p = none ∧ famO t p = none) ∨ (∃ k, findT t p = some k ∧ p = [47] ∧ famO t p = none) ∨
    (∃ k ns, findT t p = some k ∧ partsP p = some ns ∧ ns ≠ [] ∧ ¬ p = [47] ∧ famO t p = some (k, (findT t (joinPs (ns.take (ns.length - 1)))).getD tr0)) := by
  unfold famO
  cases hf : findT t p with
  | none =>
    refine .inl ⟨rfl, ?_⟩
    cases partsP p <;> rfl
  | some k =>
    cases hp : partsP p with
    | none => unfold findT at hf; rw [hp] at hf; cases hf
    | some ns =>
      have hj := parts_join hp
      have hr := joinPs_root (parts_good hp)
      by_cases h0 : ns = []
      · exact .inr (.inl ⟨k, rfl, by rw [← hj, h0]; rfl, by simp only [h0, if_true]⟩)
      · refine .inr (.inr ⟨k, ns, rfl, rfl, h0, fun e => h0 (hr.1 (by rw [hj]; exact e)), ?_⟩)
        simp only [h0, if_false]
section
variable {H : AHeap} {K : AV → AHeap → Prop}
end
section
variable {H : AHeap} {K : AV → AHeap → Prop}
end
section
variable {H : AHeap} {e : TypeId} {gen id idv n cap sz b i : Nat} {C ycs : List AV}
end
attribute [-go_sem] acopy
section
variable {G : AHeap} {e : TypeId} {gd d off len sz m : Nat} {R ys : List AV} {x : AV}
end
def c137 : ACode := 
    (.seq 
    (.region [⟨(some 4), (.q (.move (.const .nils))), none⟩]) 
    (.seq 
    (.region [⟨(some 8), (.q (.move (.tmp 0))), none⟩, ⟨(some 9), (.q (.move (.tmp 1))), none⟩, ⟨(some 10), (.s (.call 100 [(.tmp 8), (.tmp 9)])), none⟩, ⟨(some 5), (.q (.move (.tmp 10))), none⟩]) 
    (.seq 
    (.seq 
    (.region [⟨(some 11), (.q (.move (.tmp 5))), none⟩, ⟨(some 12), (.q (.bin .eql (.tmp 11) (.const (.int .i64 (-1))))), none⟩]) 
    (.cond (.tmp 12) 
    (.seq 
    (.region [⟨(some 13), (.q (.move (.tmp 0))), none⟩, ⟨(some 4), (.q (.move (.tmp 13))), none⟩]) .ret) .skip)) 
    (.seq 
    (.seq 
    (.region [⟨(some 14), (.q (.move (.tmp 5))), none⟩, ⟨(some 15), (.q (.bin .add (.tmp 14) (.const (.int .i64 1)))), none⟩, ⟨(some 6), (.q (.move (.tmp 15))), none⟩]) 
    (.block 0 
    (.loop 
    (.seq 
    (.seq 
    (.region [⟨(some 16), (.q (.move (.tmp 6))), none⟩, ⟨(some 17), (.q (.move (.tmp 0))), none⟩, ⟨(some 18), (.q (.len false (.tmp 17))), none⟩, ⟨(some 19), (.q (.bin .lss (.tmp 16) (.tmp 18))), none⟩]) 
    (.cond (.tmp 19) .skip (.exit 0))) 
    (.seq 
    (.block 1 
    (.seq 
    (.region [⟨(some 22), (.q (.move (.tmp 0))), none⟩, ⟨(some 23), (.q (.move (.tmp 6))), none⟩, ⟨(some 24), (.q (.idxSl 2 (.tmp 22) (.tmp 23))), none⟩, ⟨(some 25), (.q (.load true 2 (.tmp 24))), none⟩, ⟨(some 7), (.s (.alloc 93 [(.int .i64 0), (.int .i64 0)])), none⟩, ⟨none, (.s (.store 2 (.tmp 7) (.tmp 25))), none⟩]) 
    (.seq 
    (.region [⟨(some 26), (.q (.move (.tmp 1))), none⟩, ⟨(some 27), (.q (.load true 2 (.tmp 7))), none⟩, ⟨(some 28), (.s (.callv (.tmp 26) [(.tmp 27)])), none⟩, ⟨(some 29), (.q (.un .not (.tmp 28))), none⟩]) 
    (.cond (.tmp 29) 
    (.seq 
    (.region [⟨(some 30), (.q (.move (.tmp 0))), none⟩, ⟨(some 31), (.q (.move (.tmp 5))), none⟩, ⟨(some 32), (.q (.load true 2 (.tmp 7))), none⟩, ⟨(some 33), (.q (.idxSl 2 (.tmp 30) (.tmp 31))), none⟩, ⟨none, (.s (.store 2 (.tmp 33) (.tmp 32))), none⟩]) 
    (.region [⟨(some 34), (.q (.move (.tmp 5))), none⟩, ⟨(some 35), (.q (.bin .add (.tmp 34) (.const (.int .i64 1)))), none⟩, ⟨(some 5), (.q (.move (.tmp 35))), none⟩])) .skip)))) 
    (.region [⟨(some 20), (.q (.move (.tmp 6))), none⟩, ⟨(some 21), (.q (.bin .add (.tmp 20) (.const (.int .i64 1)))), none⟩, ⟨(some 6), (.q (.move (.tmp 21))), none⟩])))))) 
    (.seq 
    (.region [⟨(some 36), (.q (.move (.tmp 0))), none⟩, ⟨(some 37), (.q (.move (.tmp 5))), none⟩, ⟨(some 38), (.q (.sliceSl 2 (.tmp 36) (some (.tmp 37)) none)), none⟩, ⟨none, (.s (.clear 2 [(.int .i64 0), (.int .i64 0)] (.tmp 38))), none⟩]) 
    (.seq 
    (.region [⟨(some 39), (.q (.move (.tmp 0))), none⟩, ⟨(some 40), (.q (.move (.tmp 5))), none⟩, ⟨(some 41), (.q (.sliceSl 2 (.tmp 39) none (some (.tmp 40)))), none⟩, ⟨(some 4), (.q (.move (.tmp 41))), none⟩]) .ret))))))
theorem t137 : Told Tryz.prog 137 42 c137 [(.tmp 4)] := ⟨Tryz.f137, _, [], Tryz.func137, rfl, by kernel_rfl, rfl, by kernel_rfl, by kernel_rfl⟩
def c100 : ACode := 
    (.seq 
    (.region [⟨(some 4), (.q (.move (.const (.int .i64 0)))), none⟩]) 
    (.seq 
    (.seq 
    (.region [⟨(some 6), (.q (.move (.tmp 0))), none⟩, ⟨(some 7), (.q (.len false (.tmp 6))), none⟩, ⟨(some 8), (.q (.move (.const (.int .i64 0)))), none⟩]) 
    (.block 0 
    (.loop 
    (.seq 
    (.region [⟨(some 9), (.q (.bin .lss (.tmp 8) (.tmp 7))), none⟩]) 
    (.seq 
    (.cond (.tmp 9) .skip (.exit 0)) 
    (.seq 
    (.block 1 
    (.seq 
    (.region [⟨(some 10), (.q (.move (.tmp 8))), none⟩, ⟨(some 5), (.q (.move (.tmp 10))), none⟩]) 
    (.seq 
    (.region [⟨(some 11), (.q (.move (.tmp 1))), none⟩, ⟨(some 12), (.q (.move (.tmp 0))), none⟩, ⟨(some 13), (.q (.move (.tmp 5))), none⟩, ⟨(some 14), (.q (.idxSl 2 (.tmp 12) (.tmp 13))), none⟩, ⟨(some 15), (.q (.load true 2 (.tmp 14))), none⟩, ⟨(some 16), (.s (.callv (.tmp 11) [(.tmp 15)])), none⟩]) 
    (.cond (.tmp 16) 
    (.seq 
    (.region [⟨(some 17), (.q (.move (.tmp 5))), none⟩, ⟨(some 4), (.q (.move (.tmp 17))), none⟩]) .ret) .skip)))) 
    (.region [⟨(some 18), (.q (.bin .add (.tmp 8) (.const (.int .i64 1)))), none⟩, ⟨(some 8), (.q (.move (.tmp 18))), none⟩]))))))) 
    (.seq 
    (.region [⟨(some 4), (.q (.move (.const (.int .i64 (-1))))), none⟩]) .ret)))
theorem t100 : Told Tryz.prog 100 19 c100 [(.tmp 4)] := ⟨Tryz.f100, _, [], Tryz.func100, rfl, by kernel_rfl, rfl, by kernel_rfl, by kernel_rfl⟩
def c53 : ACode := 
    (.seq 
    (.region [⟨(some 2), (.q (.move (.const .nils))), none⟩]) 
    (.seq 
    (.seq 
    (.region [⟨(some 3), (.q (.move (.tmp 0))), none⟩, ⟨(some 4), (.q (.nil .sl false (.tmp 3) (.const .nils))), none⟩]) 
    (.cond (.tmp 4) 
    (.seq 
    (.region [⟨(some 2), (.q (.move (.const .nils))), none⟩]) .ret) .skip)) 
    (.seq 
    (.region [⟨(some 5), (.s (.litw 93 2 [])), none⟩, ⟨(some 6), (.q (.move (.tmp 0))), none⟩, ⟨(some 7), (.s (.app 93 2 16 (.tmp 5) (.tmp 6))), none⟩, ⟨(some 2), (.q (.move (.tmp 7))), none⟩]) .ret)))
theorem t53 : Told Tryz.prog 53 8 c53 [(.tmp 2)] := ⟨Tryz.f53, _, [5], Tryz.func53, rfl, by kernel_rfl, rfl, by kernel_rfl, by kernel_rfl⟩
def c139 : ACode := 
    (.seq 
    (.region [⟨(some 5), (.q (.move (.tmp 0))), none⟩, ⟨(some 6), (.q (.len false (.tmp 5))), none⟩, ⟨(some 4), (.q (.move (.tmp 6))), none⟩]) 
    (.region [⟨(some 7), (.q (.move (.tmp 0))), none⟩, ⟨(some 8), (.q (.move (.tmp 4))), none⟩, ⟨(some 9), (.q (.move (.tmp 4))), none⟩, ⟨(some 10), (.q (.conv .u64 (.tmp 9))), none⟩, ⟨(some 11), (.s (.call 181 [(.tmp 10)])), none⟩, ⟨(some 12), (.q (.move (.tmp 1))), none⟩, ⟨(some 13), (.s (.call 180 [(.tmp 7), (.const (.int .i64 0)), (.tmp 8), (.tmp 11), (.tmp 12)])), none⟩]))
theorem t139 : Told Tryz.prog 139 14 c139 [] := ⟨Tryz.f139, _, [], Tryz.func139, rfl, by kernel_rfl, rfl, by kernel_rfl, by kernel_rfl⟩
def c149 : ACode := 
    (.seq 
    (.region [⟨(some 1), (.s (.box 93 (.tmp 0))), none⟩, ⟨(some 2), (.q (.move (.const (.bool false)))), none⟩]) 
    (.seq 
    (.region [⟨(some 3), (.q (.fieldAddr 0 (.tmp 1))), none⟩, ⟨(some 4), (.q (.load false 1 (.tmp 3))), none⟩, ⟨(some 5), (.q (.bin .geq (.tmp 4) (.const (.int .i64 0)))), none⟩, ⟨(some 6), (.q (.move (.tmp 5))), none⟩, ⟨(some 7), (.q (.fieldAddr 0 (.tmp 1))), (some (6, true))⟩, ⟨(some 8), (.q (.load false 1 (.tmp 7))), (some (6, true))⟩, ⟨(some 9), (.q (.bin .leq (.tmp 8) (.const (.int .i64 4294967295)))), (some (6, true))⟩, ⟨(some 10), (.q (.pick (.tmp 6) (.tmp 9) (.const (.bool false)))), none⟩, ⟨(some 11), (.q (.move (.tmp 10))), none⟩, ⟨(some 12), (.q (.fieldAddr 1 (.tmp 1))), (some (11, true))⟩, ⟨(some 13), (.q (.load false 1 (.tmp 12))), (some (11, true))⟩, ⟨(some 14), (.q (.bin .geq (.tmp 13) (.const (.int .i64 0)))), (some (11, true))⟩, ⟨(some 15), (.q (.pick (.tmp 11) (.tmp 14) (.const (.bool false)))), none⟩, ⟨(some 16), (.q (.move (.tmp 15))), none⟩, ⟨(some 17), (.q (.fieldAddr 1 (.tmp 1))), (some (16, true))⟩, ⟨(some 18), (.q (.load false 1 (.tmp 17))), (some (16, true))⟩, ⟨(some 19), (.q (.bin .leq (.tmp 18) (.const (.int .i64 4294967295)))), (some (16, true))⟩, ⟨(some 20), (.q (.pick (.tmp 16) (.tmp 19) (.const (.bool false)))), none⟩, ⟨(some 2), (.q (.move (.tmp 20))), none⟩]) .ret))
theorem t149 : Told Tryz.prog 149 21 c149 [(.tmp 2)] := ⟨Tryz.f149, _, [], Tryz.func149, rfl, by kernel_rfl, rfl, by kernel_rfl, by kernel_rfl⟩
def c98 : ACode := 
    (.seq 
    (.region [⟨(some 1), (.s (.box 93 (.tmp 0))), none⟩, ⟨(some 2), (.q (.move (.const (.bool false)))), none⟩]) 
    (.seq 
    (.region [⟨(some 3), (.q (.load true 2 (.tmp 1))), none⟩, ⟨(some 4), (.s (.call 149 [(.tmp 3)])), none⟩, ⟨(some 5), (.q (.move (.tmp 4))), none⟩, ⟨(some 6), (.q (.fieldAddr 1 (.tmp 1))), (some (5, true))⟩, ⟨(some 7), (.q (.load false 1 (.tmp 6))), (some (5, true))⟩, ⟨(some 8), (.q (.bin .gtr (.tmp 7) (.const (.int .i64 0)))), (some (5, true))⟩, ⟨(some 9), (.q (.pick (.tmp 5) (.tmp 8) (.const (.bool false)))), none⟩, ⟨(some 2), (.q (.move (.tmp 9))), none⟩]) .ret))
theorem t98 : Told Tryz.prog 98 10 c98 [(.tmp 2)] := ⟨Tryz.f98, _, [], Tryz.func98, rfl, by kernel_rfl, rfl, by kernel_rfl, by kernel_rfl⟩
def c85 : ACode := 
    (.seq 
    (.region [⟨(some 2), (.q (.move (.const .nils))), none⟩]) 
    (.seq 
    (.region [⟨(some 9), (.q (.move (.tmp 0))), none⟩, ⟨(some 10), (.s (.call 53 [(.tmp 9)])), none⟩, ⟨(some 11), (.s (.call 137 [(.tmp 10), (.const (.func (.func 138) [] []))])), none⟩, ⟨(some 3), (.q (.move (.tmp 11))), none⟩]) 
    (.seq 
    (.region [⟨(some 12), (.q (.move (.tmp 3))), none⟩, ⟨(some 13), (.s (.call 139 [(.tmp 12), (.const (.func (.func 140) [] []))])), none⟩]) 
    (.seq 
    (.region [⟨(some 4), (.q (.move (.const .nils))), none⟩]) 
    (.seq 
    (.seq 
    (.region [⟨(some 14), (.q (.move (.tmp 3))), none⟩, ⟨(some 15), (.q (.len false (.tmp 14))), none⟩, ⟨(some 16), (.q (.move (.const (.int .i64 0)))), none⟩]) 
    (.block 0 
    (.loop 
    (.seq 
    (.region [⟨(some 17), (.q (.bin .lss (.tmp 16) (.tmp 15))), none⟩]) 
    (.seq 
    (.cond (.tmp 17) .skip (.exit 0)) 
    (.seq 
    (.block 1 
    (.seq 
    (.region [⟨(some 18), (.q (.idxSl 2 (.tmp 14) (.tmp 16))), none⟩, ⟨(some 19), (.q (.load true 2 (.tmp 18))), none⟩, ⟨(some 6), (.s (.alloc 93 [(.int .i64 0), (.int .i64 0)])), none⟩, ⟨none, (.s (.store 2 (.tmp 6) (.tmp 19))), none⟩]) 
    (.seq 
    (.region [⟨(some 20), (.q (.move (.tmp 4))), none⟩, ⟨(some 21), (.q (.len false (.tmp 20))), none⟩, ⟨(some 22), (.q (.bin .sub (.tmp 21) (.const (.int .i64 1)))), none⟩, ⟨(some 7), (.q (.move (.tmp 22))), none⟩]) 
    (.seq 
    (.seq 
    (.region [⟨(some 23), (.q (.move (.tmp 7))), none⟩, ⟨(some 24), (.q (.bin .lss (.tmp 23) (.const (.int .i64 0)))), none⟩, ⟨(some 25), (.q (.move (.tmp 24))), none⟩, ⟨(some 26), (.q (.fieldAddr 0 (.tmp 6))), (some (25, false))⟩, ⟨(some 27), (.q (.load false 1 (.tmp 26))), (some (25, false))⟩, ⟨(some 28), (.q (.move (.tmp 4))), (some (25, false))⟩, ⟨(some 29), (.q (.move (.tmp 7))), (some (25, false))⟩, ⟨(some 30), (.q (.idxSl 2 (.tmp 28) (.tmp 29))), (some (25, false))⟩, ⟨(some 31), (.q (.fieldAddr 0 (.tmp 30))), (some (25, false))⟩, ⟨(some 32), (.q (.load false 1 (.tmp 31))), (some (25, false))⟩, ⟨(some 33), (.q (.move (.tmp 4))), (some (25, false))⟩, ⟨(some 34), (.q (.move (.tmp 7))), (some (25, false))⟩, ⟨(some 35), (.q (.idxSl 2 (.tmp 33) (.tmp 34))), (some (25, false))⟩, ⟨(some 36), (.q (.fieldAddr 1 (.tmp 35))), (some (25, false))⟩, ⟨(some 37), (.q (.load false 1 (.tmp 36))), (some (25, false))⟩, ⟨(some 38), (.q (.bin .add (.tmp 32) (.tmp 37))), (some (25, false))⟩, ⟨(some 39), (.q (.bin .gtr (.tmp 27) (.tmp 38))), (some (25, false))⟩, ⟨(some 40), (.q (.pick (.tmp 25) (.const (.bool true)) (.tmp 39))), none⟩]) 
    (.cond (.tmp 40) 
    (.seq 
    (.region [⟨(some 41), (.q (.move (.tmp 4))), none⟩, ⟨(some 42), (.q (.load true 2 (.tmp 6))), none⟩, ⟨(some 43), (.s (.lit 93 2 [(.tmp 42)])), none⟩, ⟨(some 44), (.s (.app 93 2 16 (.tmp 41) (.tmp 43))), none⟩, ⟨(some 4), (.q (.move (.tmp 44))), none⟩]) (.exit 1)) .skip)) 
    (.seq 
    (.region [⟨(some 45), (.q (.move (.tmp 4))), none⟩, ⟨(some 46), (.q (.move (.tmp 7))), none⟩, ⟨(some 47), (.q (.idxSl 2 (.tmp 45) (.tmp 46))), none⟩, ⟨(some 48), (.q (.fieldAddr 0 (.tmp 47))), none⟩, ⟨(some 49), (.q (.load false 1 (.tmp 48))), none⟩, ⟨(some 50), (.q (.move (.tmp 4))), none⟩, ⟨(some 51), (.q (.move (.tmp 7))), none⟩, ⟨(some 52), (.q (.idxSl 2 (.tmp 50) (.tmp 51))), none⟩, ⟨(some 53), (.q (.fieldAddr 1 (.tmp 52))), none⟩, ⟨(some 54), (.q (.load false 1 (.tmp 53))), none⟩, ⟨(some 55), (.q (.bin .add (.tmp 49) (.tmp 54))), none⟩, ⟨(some 56), (.q (.fieldAddr 0 (.tmp 6))), none⟩, ⟨(some 57), (.q (.load false 1 (.tmp 56))), none⟩, ⟨(some 58), (.q (.fieldAddr 1 (.tmp 6))), none⟩, ⟨(some 59), (.q (.load false 1 (.tmp 58))), none⟩, ⟨(some 60), (.q (.bin .add (.tmp 57) (.tmp 59))), none⟩, ⟨(some 61), (.q (.best true (.tmp 55) (.tmp 60))), none⟩, ⟨(some 8), (.q (.move (.tmp 61))), none⟩]) 
    (.region [⟨(some 62), (.q (.move (.tmp 4))), none⟩, ⟨(some 63), (.q (.move (.tmp 7))), none⟩, ⟨(some 64), (.q (.move (.tmp 8))), none⟩, ⟨(some 65), (.q (.move (.tmp 4))), none⟩, ⟨(some 66), (.q (.move (.tmp 7))), none⟩, ⟨(some 67), (.q (.idxSl 2 (.tmp 65) (.tmp 66))), none⟩, ⟨(some 68), (.q (.fieldAddr 0 (.tmp 67))), none⟩, ⟨(some 69), (.q (.load false 1 (.tmp 68))), none⟩, ⟨(some 70), (.q (.bin .sub (.tmp 64) (.tmp 69))), none⟩, ⟨(some 71), (.q (.idxSl 2 (.tmp 62) (.tmp 63))), none⟩, ⟨(some 72), (.q (.fieldAddr 1 (.tmp 71))), none⟩, ⟨none, (.s (.store 1 (.tmp 72) (.tmp 70))), none⟩])))))) 
    (.region [⟨(some 73), (.q (.bin .add (.tmp 16) (.const (.int .i64 1)))), none⟩, ⟨(some 16), (.q (.move (.tmp 73))), none⟩]))))))) 
    (.seq 
    (.region [⟨(some 74), (.q (.move (.tmp 4))), none⟩, ⟨(some 2), (.q (.move (.tmp 74))), none⟩]) .ret))))))
theorem t85 : Told Tryz.prog 85 75 c85 [(.tmp 2)] := ⟨Tryz.f85, _, [], Tryz.func85, rfl, by kernel_rfl, rfl, by kernel_rfl, by kernel_rfl⟩
def c138 : ACode := 
    (.seq 
    (.region [⟨(some 1), (.s (.box 93 (.tmp 0))), none⟩, ⟨(some 2), (.q (.move (.const (.bool false)))), none⟩]) 
    (.seq 
    (.region [⟨(some 3), (.q (.load true 2 (.tmp 1))), none⟩, ⟨(some 4), (.s (.call 98 [(.tmp 3)])), none⟩, ⟨(some 5), (.q (.un .not (.tmp 4))), none⟩, ⟨(some 2), (.q (.move (.tmp 5))), none⟩]) .ret))
theorem t138 : Told Tryz.prog 138 6 c138 [(.tmp 2)] := ⟨Tryz.f138, _, [], Tryz.func138, rfl, by kernel_rfl, rfl, by kernel_rfl, by kernel_rfl⟩
def c36 : ACode := 
    (.seq 
    (.region [⟨(some 4), (.q (.move (.const (.bool false)))), none⟩]) 
    (.seq 
    (.seq 
    (.region [⟨(some 6), (.q (.move (.tmp 0))), none⟩, ⟨(some 7), (.q (.len false (.tmp 6))), none⟩, ⟨(some 8), (.q (.move (.tmp 1))), none⟩, ⟨(some 9), (.q (.len false (.tmp 8))), none⟩, ⟨(some 10), (.q (.bin .neq (.tmp 7) (.tmp 9))), none⟩]) 
    (.cond (.tmp 10) 
    (.seq 
    (.region [⟨(some 4), (.q (.move (.const (.bool false)))), none⟩]) .ret) .skip)) 
    (.seq 
    (.seq 
    (.region [⟨(some 5), (.q (.move (.const (.int .i64 0)))), none⟩]) 
    (.block 0 
    (.loop 
    (.seq 
    (.seq 
    (.region [⟨(some 11), (.q (.move (.tmp 5))), none⟩, ⟨(some 12), (.q (.move (.tmp 0))), none⟩, ⟨(some 13), (.q (.len false (.tmp 12))), none⟩, ⟨(some 14), (.q (.bin .lss (.tmp 11) (.tmp 13))), none⟩, ⟨(some 15), (.q (.move (.tmp 14))), none⟩, ⟨(some 16), (.q (.move (.tmp 5))), (some (15, true))⟩, ⟨(some 17), (.q (.move (.tmp 1))), (some (15, true))⟩, ⟨(some 18), (.q (.len false (.tmp 17))), (some (15, true))⟩, ⟨(some 19), (.q (.bin .lss (.tmp 16) (.tmp 18))), (some (15, true))⟩, ⟨(some 20), (.q (.pick (.tmp 15) (.tmp 19) (.const (.bool false)))), none⟩]) 
    (.cond (.tmp 20) .skip (.exit 0))) 
    (.seq 
    (.block 1 
    (.seq 
    (.region [⟨(some 23), (.q (.move (.tmp 0))), none⟩, ⟨(some 24), (.q (.move (.tmp 5))), none⟩, ⟨(some 25), (.q (.idxSl 2 (.tmp 23) (.tmp 24))), none⟩, ⟨(some 26), (.q (.load true 2 (.tmp 25))), none⟩, ⟨(some 27), (.q (.move (.tmp 1))), none⟩, ⟨(some 28), (.q (.move (.tmp 5))), none⟩, ⟨(some 29), (.q (.idxSl 2 (.tmp 27) (.tmp 28))), none⟩, ⟨(some 30), (.q (.load true 2 (.tmp 29))), none⟩, ⟨(some 31), (.q 
    (.seq [(.i .i64), (.i .i64)] true (.tmp 26) (.tmp 30))), none⟩]) 
    (.cond (.tmp 31) 
    (.seq 
    (.region [⟨(some 4), (.q (.move (.const (.bool false)))), none⟩]) .ret) .skip))) 
    (.region [⟨(some 21), (.q (.move (.tmp 5))), none⟩, ⟨(some 22), (.q (.bin .add (.tmp 21) (.const (.int .i64 1)))), none⟩, ⟨(some 5), (.q (.move (.tmp 22))), none⟩])))))) 
    (.seq 
    (.region [⟨(some 4), (.q (.move (.const (.bool true)))), none⟩]) .ret))))
theorem t36 : Told Tryz.prog 36 32 c36 [(.tmp 4)] := ⟨Tryz.f36, _, [], Tryz.func36, rfl, by kernel_rfl, rfl, by kernel_rfl, by kernel_rfl⟩
attribute [-go_sem] acopy
section
variable {H : AHeap} {e : TypeId} {gen id idv n cap sz b i : Nat} {C ycs : List AV}
end
section
variable {H : AHeap} {K : AV → AHeap → Prop}
end
section
variable {H : AHeap} {K : AV → AHeap → Prop}
end
end Go.Proofs.YtmdgjfadbhenjaaGreatDoor.AL
/- Pairs of numbers in a slice of one's own, sorted by the library: the kit's own contract as a told call. -/
namespace Go.Proofs.YtmdgjfadbhenjaaGreatDoor.AL
open Go Go.Proofs Go.Shelf Go.RowKit Go.Lib Go.Sort
def encSp (p : Int × Int) : List Value := [.int .i64 p.1, .int .i64 p.2]
theorem sp_cells (l : List (Int × Int)) : (l.map spnV).flatMap AV.cells = l.flatMap (fun p => [AV.int .i64 p.1, AV.int .i64 p.2]) := by
  rw [List.flatMap_map]
  rfl
theorem flat2 {α β : Type} (f g : α → β) : ∀ (l : List α) (j : Nat), (l.flatMap (fun p => [f p, g p]))[j]? = (l[j / 2]?).map (fun p => if j % 2 = 0 then f p else g p)
  | [], j => by simp
  | p :: l, 0 => rfl
  | p :: l, 1 => rfl
  | p :: l, j + 2 => by
    have e1 : (j + 2) / 2 = j / 2 + 1 := by omega
    have e2 : (j + 2) % 2 = j % 2 := by omega
    rw [e1, e2, List.getElem?_cons_succ, ← flat2 f g l j]
    rfl
theorem flat2_len (l : List (Int × Int)) : ((l.map spnV).flatMap AV.cells).length = l.length * 2 := by
  induction l with
  | nil => rfl
  | cons p l ih =>
    rw [List.map_cons, List.flatMap_cons, List.length_append, ih, spnV_cells, List.length_cons]
    simp only [List.length_cons, List.length_nil]
    omega
def ltA (x y : Int × Int) : Bool := decide (x.1 < y.1)
theorem sort_lists {l l' : List (Int × Int)} (hp : PermIn 0 l.toArray.size l.toArray l'.toArray) (hs : SortedIn ltA 0 l.toArray.size l'.toArray) : l'.Perm l ∧ l'.length = l.length ∧ l'.Pairwise (fun p q => p.1 ≤ q.1) := by
  obtain ⟨h1, _, h3⟩ := hp
  have hl : l'.length = l.length := by simpa using h1
  refine ⟨?_, hl, ?_⟩
  · have e1 : (l.toArray.extract 0 l.toArray.size).toList = l := by simp
    have e2 : (l'.toArray.extract 0 l.toArray.size).toList = l' := by
      have : l.toArray.size = l'.toArray.size := h1.symm
      rw [this]
      simp
    rw [e1, e2] at h3
    exact h3
  · rw [List.pairwise_iff_getElem]
    intro i j hi hj hij
    have h := hs i j (Nat.zero_le _) hij (by simpa [hl] using hj)
    have e1 : l'.toArray[j]! = l'[j] := by simp [hj]
    have e2 : l'.toArray[i]! = l'[i] := by simp [hi]
    rw [e1, e2] at h
    unfold ltA at h
    have := of_decide_eq_false h
    omega
theorem holds_sp {g : Ghost} {w : World} {H : AHeap} {id gen b : Nat} {e : TypeId} {l : List (Int × Int)} (hS : Sim g w H) (hg : H.get id = some (.row e gen ((l.map spnV).flatMap AV.cells))) (hb : g.m id gen = some b) : HoldsK encSp 2 w b 0 l.toArray := by
  obtain ⟨b', cur, lo, hi, p1, p2, p3, p4, p5⟩ := hS.live id _ hg
  rw [hb] at p1
  obtain rfl := Option.some.inj p1
  intro j hj
  rw [size_flatK] at hj
  have hj2 : j < l.length * 2 := by simpa using hj
  have hd : j / 2 < l.length := by omega
  rw [Nat.zero_add]
  obtain ⟨u, hu, hr⟩ := p5 j (if j % 2 = 0 then .int .i64 l[j / 2].1 else .int .i64 l[j / 2].2) (by rw [sp_cells, flat2, List.getElem?_eq_getElem hd]; rfl)
  have hjc : j < cur.size := by
    rw [flat2_len] at p4
    omega
  refine ⟨?_, ?_⟩
  · unfold World.cell?
    simp only [p2]
    rw [if_neg (by simp), hu, get_flatK _ _ _ _ hj]
    have e1 : (l.toArray[j / 2]!) = l[j / 2] := by simp [hd]
    rw [e1]
    congr 1
    rcases Nat.mod_two_eq_zero_or_one j with hm | hm
    · rw [hm, if_pos rfl] at hr
      rw [int_inv hr, hm]
      rfl
    · rw [hm, if_neg (by decide)] at hr
      rw [int_inv hr, hm]
      rfl
  · unfold World.frozen?
    simp only [p2]
    have := p3 j (by omega)
    simpa using this
theorem acalls_sortSp {P : Program} {f n : Nat} {ac : ACode} {rs : List RV} (hT : Told P f n ac rs) {fn id gen : Nat} {e : TypeId} {l : List (Int × Int)} {H : AHeap} {K : AV → AHeap → Prop} (hg : H.get id = some (.row e gen ((l.map spnV).flatMap AV.cells)))
    (hC : ∀ (b cap : Nat) (w : World), HoldsK encSp 2 w b 0 l.toArray → b < w.heap.size → Calls P f #[.slice (some ⟨b, 0, none⟩) (l.toArray.size : Nat) cap, .func (.func fn) #[] #[]] w fun ee w' => ee = .returned (.tuple #[]) ∧ ∃ d' n os, PermIn 0 l.toArray.size l.toArray d' ∧ SortedIn ltA 0 l.toArray.size d' ∧ w' = sortWorldK encSp 2 w b 0 n d' os)
    (h : ∀ l' : List (Int × Int), l'.Perm l → l'.length = l.length → l'.Pairwise (fun p q => p.1 ≤ q.1) → K (.tup []) (H.set id (.row e gen ((l'.map spnV).flatMap AV.cells)))) : ACalls P f [.wr id gen 0 l.length 2, .func (.func fn) [] []] H K :=
  acalls_calls hT (fun g w vs hS hR => by
    obtain ⟨u, v, rfl, h1, h2⟩ := reps_two hR
    obtain ⟨b, c, e', n', rfl, q1, q2, q3, q4, q5⟩ := h1.wr_inv
    obtain ⟨first, caps, rfl, h3, h4⟩ := h2.func_inv
    obtain rfl : first = #[] := by
      have := h3.1
      exact Array.eq_empty_of_size_eq_zero this
    obtain rfl : caps = #[] := by
      have := h4.1
      exact Array.eq_empty_of_size_eq_zero this
    have hH := holds_sp hS hg q1
    have hbl := (hS.mlt _ _ _ q1).2
    have hc := hC b c w hH hbl
    rw [List.size_toArray] at hc
    refine hc.mono (fun ee w' he => ?_)
    obtain ⟨rfl, d', m, os, hp, hs, rfl⟩ := he
    obtain ⟨l'⟩ := d'
    have es : l.length = l.toArray.size := by simp
    rw [es] at hp hs
    obtain ⟨r1, r2, r3⟩ := sort_lists hp hs
    obtain ⟨b', cur, lo, hi, p1, p2, p3, p4, p5⟩ := hS.live id _ hg
    rw [q1] at p1
    obtain rfl := Option.some.inj p1
    have hF : (flatK encSp 2 l'.toArray).size = l.length * 2 := by
      rw [size_flatK, List.size_toArray, r2]
    rw [flat2_len] at p4
    have hheap : (putRowK encSp 2 (Sort.ahead w m) b 0 l'.toArray).heap = w.heap.setIfInBounds b (.cells (putCells _root_.id 0 (flatK encSp 2 l'.toArray) cur) e (lo, hi)) := by
      show w.heap.modify b (onCells (putCells _root_.id 0 (flatK encSp 2 l'.toArray))) = _
      apply Array.ext_getElem?
      intro i
      rw [Array.getElem?_modify, Array.getElem?_setIfInBounds]
      by_cases hi' : b = i
      · subst hi'
        rw [if_pos rfl, if_pos rfl, p2, if_pos hbl]
        rfl
      · rw [if_neg hi', if_neg hi']
    obtain ⟨E1, S1, _⟩ := sim_cells (w' := putRowK encSp 2 (Sort.ahead w m) b 0 l'.toArray) (ys := (l'.map spnV).flatMap AV.cells) hS hg q1 (.inl rfl) p2 p3 hheap (by simp [putCells]) (by rw [flat2_len, r2]; exact p4) (fun i y hy => by
      have hil : i < l'.length * 2 := by
        have := (List.getElem?_eq_some_iff.1 hy).1
        rwa [flat2_len] at this
      have hd : i / 2 < l'.length := by omega
      have hic : i < cur.size := by omega
      rw [sp_cells, flat2, List.getElem?_eq_getElem hd] at hy
      obtain rfl := Option.some.inj hy
      have e0 : (putCells _root_.id 0 (flatK encSp 2 l'.toArray) cur)[i]? = some (if 0 ≤ i ∧ i < 0 + (flatK encSp 2 l'.toArray).size then _root_.id (flatK encSp 2 l'.toArray)[i - 0]! else cur[i]) := by
        unfold putCells
        rw [Array.getElem?_mapIdx, Array.getElem?_eq_getElem hic]
        rfl
      refine ⟨_, e0, ?_⟩
      rw [if_pos ⟨Nat.zero_le _, by omega⟩, Nat.sub_zero, _root_.id, get_flatK _ _ _ _ (by rw [List.size_toArray]; exact hil)]
      have e1 : (l'.toArray[i / 2]!) = l'[i / 2] := by simp [hd]
      rw [e1]
      rcases Nat.mod_two_eq_zero_or_one i with hm | hm
      · rw [hm]
        exact .int _ _
      · rw [hm]
        exact .int _ _) rfl rfl rfl
    obtain ⟨E2, S2⟩ := sim_below (w' := sortWorldK encSp 2 w b 0 m l'.toArray os) S1 ⟨rfl, rfl, rfl, by unfold sortWorldK; rw [size_grow]; exact Nat.le_add_right _ _, fun k hk => heap_grow_old _ os hk⟩
    refine ⟨.tuple #[], .tup [], _, _, rfl, h l' r1 r2 r3, E1.trans E2, S2, .tup _ _ ?_ ?_⟩
    · rfl
    · intro i v y hv hy
      simp at hy)
end Go.Proofs.YtmdgjfadbhenjaaGreatDoor.AL
/- Spans in slices: copied, found, taken out. -/
namespace Go.Proofs.YtmdgjfadbhenjaaGreatDoor.AL
open Go Go.Proofs
attribute [local go_sem] go_seq go_skip go_region go_regionN go_fregion rgF_some go_cond go_block go_exit go_ret nxt_nil nxt_code nxt_blk nxt_cut leave_nil leave_code leave_cut leave_blk rtn_nil rtn_code rtn_blk rtn_cut cnd_t cnd_f rgn_nil rgY_some rgY_none rgH_some rgP_some retTo_is rgV_func grd_und grd_tt grd_ff grd_tf grd_ft rgn_q rgn_alloc rgn_box rgn_store rgn_lit rgn_litw rgn_litc litCells_nil litCells_cons rgn_app rgn_copy rgn_mk rgn_s2b rgn_call rgn_callv rgn_stop rgn_slice3 aslice3 rgn_slice3l aslice3l rgn_appz rgn_clear rgn_range rgn_next arange acap rgn_put rgn_mkmap rgn_lookup rgn_mapup alookup_nilm alookup_map amapup_map afound_ok afound_no rgn_c rgn_cv qclV_func aloadr rgn_guard post_ret post_normal retY_some ares aresL ares1 AX.ev aput List.getD_cons_zero List.getD_cons_succ List.set_cons_zero List.set_cons_succ List.map_cons List.map_nil aq abin aint astr abeq aconv asame aextract alenS alenL_nils alenL_emp alenL_imm alenL_wr alenL_wc aun apart aload afieldAddr afield aidxSl_wr aidxSl_wc aidxSl_imm aidxPt aidxStr aidxArr abound asliceStr asliceSl asliceArr abest anonil afill astore acells_nils acells_emp acells_imm acells_wr acells_wc acells_str acopy litAll amk as2b anil nilOf aseq aeqs aeqv fits fit1 hp_next hp_push hp_get hp_set List.length_cons List.length_nil List.getElem?_cons_zero List.getElem?_cons_succ List.cons_append List.nil_append List.append_nil List.take_succ_cons List.take_zero List.drop_succ_cons List.drop_zero List.all_cons List.all_nil Option.map_some Option.some.injEq Bool.and_true Bool.true_and Bool.false_eq_true if_true if_false ite_true ite_false Bool.and_self true_and and_true and_self Nat.zero_add Nat.le_refl Int.toNat_natCast beq_self_eq_true eq_self tops_zero tops_succ Int.natCast_nonneg List.take_nil List.drop_nil Option.map_none flat_bool one_bool cells_bool flat_int one_int cells_int flat_str one_str cells_str flat_nilp one_nilp cells_nilp flat_ptr one_ptr cells_ptr flat_nils one_nils cells_nils flat_imm one_imm cells_imm flat_wr one_wr cells_wr flat_wc one_wc cells_wc flat_func one_func cells_func flat_nilf one_nilf cells_nilf flat_map one_map cells_map flat_nilm one_nilm cells_nilm flat_iface one_iface cells_iface flat_nili one_nili cells_nili flat_rd one_rd cells_rd flat_emp one_emp cells_emp flat_byteV one_byteV cells_byteV flat_agg cells_agg one_agg B_size B_list B_ext B_toList B_app List.take_length Int.le_refl
theorem spE_at {ls : List (Int × Int)} {i : Nat} (h : i < ls.length) : (ls.map spnV)[i]? = some (spnV (ls.getD i (0, 0))) := by
  rw [List.getElem?_map, List.getElem?_eq_getElem h, List.getD_eq_getElem?_getD, List.getElem?_eq_getElem h]
  rfl
theorem spE_mem {l : List (Int × Int)} {i : Nat} (h : i < l.length) : l.getD i (0, 0) ∈ l := by
  rw [List.getD_eq_getElem?_getD, List.getElem?_eq_getElem h]
  exact List.getElem_mem h
theorem sps_len (l : List (Int × Int)) : ∀ x ∈ l.map spnV, x.cells.length = 2 := fun x hx => by
  obtain ⟨p, _, rfl⟩ := List.mem_map.1 hx
  rfl
theorem sps_cell (l : List (Int × Int)) {i : Nat} (h : i < l.length) : (((l.map spnV).flatMap AV.cells).drop (i * 2)).take 2 = [.int .i64 (l.getD i (0, 0)).1, .int .i64 (l.getD i (0, 0)).2] := by
  rw [flat_drop _ _ (sps_len l) (by rw [List.length_map]; omega)]
  have hd : (l.map spnV).drop i = spnV (l.getD i (0, 0)) :: (l.map spnV).drop (i + 1) := by
    have hi : i < (l.map spnV).length := by rw [List.length_map]; exact h
    rw [List.drop_eq_getElem_cons hi]
    congr 1
    rw [List.getElem_map, List.getD_eq_getElem?_getD, List.getElem?_eq_getElem h]
    rfl
  rw [hd, List.flatMap_cons, spnV_cells]
  rfl
theorem sps_u (n : Nat) (l : List (Int × Int)) : AllC n (l.map spnV) := uc_map n l (fun p => by rw [spnV_cells]; simp only [u_top, u_bool, u_int, u_str, u_nilp, u_nils, u_nilf, u_nilm, u_nili, u_emp, u_byteV, u_ptr, u_wr, u_wc, u_agg, u_tup, u_rd, u_imm, u_func, u_nil, u_cons, u_app, uc_nil, uc_cons, uc_app, u_bytes, uc_bytes, u_ints, uc_ints, cells_bool, cells_int, cells_str, cells_agg, cells_ptr, cells_nils, cells_imm, cells_wr, cells_wc, cells_nilp, cells_nilf, cells_nilm, cells_rd, cells_emp, cells_byteV, cells_func, and_self, and_true, true_and, u_slA, uc_strs, cells_slA, strV_is])
theorem sps_one (l : List (Int × Int)) : ((l.map spnV).flatMap AV.cells).all AV.one = true := by
  rw [List.all_eq_true]
  intro c hc
  obtain ⟨x, hx, hcx⟩ := List.mem_flatMap.1 hc
  obtain ⟨p, _, rfl⟩ := List.mem_map.1 hx
  rw [spnV_cells] at hcx
  simp only [List.mem_cons, List.mem_nil_iff, or_false] at hcx
  rcases hcx with rfl | rfl <;> rfl
def ixSp (p : (Int × Int) → Bool) : List (Int × Int) → Nat → Int
  | [], _ => -1
  | x :: xs, i => if p x = true then (i : Int) else ixSp p xs (i + 1)
theorem ixSp_drop (p : (Int × Int) → Bool) (xs : List (Int × Int)) (i : Nat) (h : i < xs.length) : ixSp p (xs.drop i) i = if p (xs.getD i (0, 0)) = true then (i : Int) else ixSp p (xs.drop (i + 1)) (i + 1) := by
  rw [List.drop_eq_getElem_cons h, ixSp]
  rw [List.getD_eq_getElem?_getD, List.getElem?_eq_getElem h]
  rfl
theorem ixSp_spec (p : (Int × Int) → Bool) : ∀ (xs : List (Int × Int)) (i : Nat), (ixSp p xs i = -1 ∧ ∀ x ∈ xs, p x = false) ∨ ∃ j, ixSp p xs i = ((i + j : Nat) : Int) ∧ j < xs.length ∧ p (xs.getD j (0, 0)) = true ∧ ∀ x ∈ xs.take j, p x = false
  | [], i => .inl ⟨rfl, fun x h => nomatch h⟩
  | x :: xs, i => by
    rw [ixSp]
    by_cases h : p x = true
    · rw [if_pos h]
      exact .inr ⟨0, rfl, by simp, h, fun y hy => nomatch hy⟩
    · rw [if_neg h]
      rw [Bool.not_eq_true] at h
      rcases ixSp_spec p xs (i + 1) with ⟨h1, h2⟩ | ⟨j, h1, h2, h3, h4⟩
      · refine .inl ⟨h1, fun y hy => ?_⟩
        rcases List.mem_cons.1 hy with rfl | e
        · exact h
        · exact h2 y e
      · refine .inr ⟨j + 1, by rw [h1]; omega, by rw [List.length_cons]; omega, h3, fun y hy => ?_⟩
        rw [List.take_succ_cons] at hy
        rcases List.mem_cons.1 hy with rfl | e
        · exact h
        · exact h4 y e
theorem filterS_self {p : (Int × Int) → Bool} {l : List (Int × Int)} (h : ∀ x ∈ l, p x = false) : l.filter (fun x => !p x) = l := by
  rw [List.filter_eq_self]
  intro x hx
  rw [h x hx]
  rfl
section
variable {H : AHeap} {K : AV → AHeap → Prop}
theorem sclone_a {k : Nat} {l : List (Int × Int)} (hn : l.length ≤ 1000000) (h : ∀ v G, SlAt H.next G 93 2 v (l.map spnV) → Past H G → G.within G.next → K v G) : (ACalls Tryz.prog) 53 [slA k 2 (l.map spnV)] H K := by
  refine acalls_go mo t53 (fun hs hu => ?_)
  have hrow : ∀ n, n = l.length → ARet H.next K (.wr (H.next + 0) 1 0 n 2) (hp H [.row 93 1 ((l.map spnV).flatMap AV.cells)]) := by
    rintro n rfl
    have hw : (hp H [.row 93 1 ((l.map spnV).flatMap AV.cells)]).within (hp H [.row 93 1 ((l.map spnV).flatMap AV.cells)]).next := within_hp2 hs (fun o ho => by
      rw [List.mem_singleton] at ho
      subst ho
      intro c hc
      obtain ⟨x, hx, hcx⟩ := List.mem_flatMap.1 hc
      exact sps_u _ l x hx c hcx)
    refine aret_full (Nat.le_add_right _ _) hw (.wr _ _ _ _ _ (by show H.next + 0 < H.next + 1; omega)) (h _ _ (.inr ⟨H.next + 0, 1, by rw [List.length_map], Nat.le_refl _, hp_get _ _ 0⟩) (past_hp past_refl _) hw)
  have hal := sps_one l
  have hlen : (l.map spnV).length = l.length := List.length_map _
  rcases slA_cases k 2 (l.map spnV) with ⟨hk, hx⟩ | ⟨hk, hx⟩ | hk
  · simp only [c53, hk, go_sem, Nat.reduceLeDiff, Nat.reduceAdd, Nat.reduceSub, Nat.reduceMul, Nat.reduceLT, Int.reduceLT, Int.reduceLE, Int.reduceAdd, Int.reduceSub, Int.reduceMul, Int.reduceToNat, Int.reduceNeg, Int.reduceEq, Nat.reducePow, Int.reducePow, Nat.reduceEqDiff, decide_true, decide_false, reduceIte, reduceCtorEq, Int.reduceBEq, Int.reduceBNe, bne_self_eq_false, Int.cast_ofNat_Int, Bool.not_true, Bool.not_false, IntKind.bits]
    have h2 := h .nils H (by rw [hx]; exact slat_nil) past_refl hs
    rw [hp_nil]
    exact aret_full (Nat.le_refl _) hs .nils h2
  · have hl0 : l = [] := by simpa using hx
    subst hl0
    rw [List.map_nil] at hk
    simp only [c53, hk, go_sem, Nat.reduceLeDiff, Nat.reduceAdd, Nat.reduceSub, Nat.reduceMul, Nat.reduceLT, Int.reduceLT, Int.reduceLE, Int.reduceAdd, Int.reduceSub, Int.reduceMul, Int.reduceToNat, Int.reduceNeg, Int.reduceEq, Nat.reducePow, Int.reducePow, Nat.reduceEqDiff, decide_true, decide_false, reduceIte, reduceCtorEq, Int.reduceBEq, Int.reduceBNe, bne_self_eq_false, Int.cast_ofNat_Int, Bool.not_true, Bool.not_false, IntKind.bits]
    refine stp0 ?_
    exact hrow 0 rfl
  · simp only [c53, hk, go_sem, Nat.reduceLeDiff, Nat.reduceAdd, Nat.reduceSub, Nat.reduceMul, Nat.reduceLT, Int.reduceLT, Int.reduceLE, Int.reduceAdd, Int.reduceSub, Int.reduceMul, Int.reduceToNat, Int.reduceNeg, Int.reduceEq, Nat.reducePow, Int.reducePow, Nat.reduceEqDiff, decide_true, decide_false, reduceIte, reduceCtorEq, Int.reduceBEq, Int.reduceBNe, bne_self_eq_false, Int.cast_ofNat_Int, Bool.not_true, Bool.not_false, IntKind.bits]
    refine stp (And.intro hal hlen) ?_
    exact hrow _ rfl
theorem sindexO_a {n0 : Nat} {v : AV} {l : List (Int × Int)} {p : (Int × Int) → Bool} {f : Nat} {cs : List AV} (hv : SlAt n0 H 93 2 v (l.map spnV)) (hn : l.length ≤ 100000)
    (hpp : ∀ x ∈ l, ∀ K : AV → AHeap → Prop, K (.bool (p x)) H → (ACalls Tryz.prog) f ([] ++ [spnV x] ++ cs) H K) (h : K (.int .i64 (ixSp p l 0)) H) :
    (ACalls Tryz.prog) 100 [v, .func (.func f) [] cs] H K := by
  refine acalls_go mo t100 (fun hs hu => ?_)
  rcases hv with ⟨rfl, he⟩ | ⟨id, gen, rfl, hid, hg⟩
  · have hl : l = [] := by simpa using he
    subst hl
    have h : K (.int .i64 (-1)) H := h
    simp only [c100, go_sem, Nat.reduceLeDiff, Nat.reduceAdd, Nat.reduceSub, Nat.reduceMul, Nat.reduceLT, Int.reduceLT, Int.reduceLE, Int.reduceAdd, Int.reduceSub, Int.reduceMul, Int.reduceToNat, Int.reduceNeg, Int.reduceEq, Nat.reducePow, Int.reducePow, Nat.reduceEqDiff, decide_true, decide_false, reduceIte, reduceCtorEq, Int.reduceBEq, Int.reduceBNe, bne_self_eq_false, Int.cast_ofNat_Int, Bool.not_true, Bool.not_false, IntKind.bits]
    refine go_rounds mono 1 ?_
    simp (maxSteps := 4000000) (disch := (first | omega | (simp only [set_next, List.length_append, List.length_cons, List.length_nil, List.length_take, List.length_drop, List.length_map, List.length_set, List.length_replicate]; omega) | (simp only [set_next, ne_eq, reduceCtorEq, not_false_eq_true]))) only [rnds_succ, go_sem, Nat.reduceLeDiff, Nat.reduceAdd, Nat.reduceSub, Nat.reduceMul, Nat.reduceLT, Int.reduceLT, Int.reduceLE, Int.reduceAdd, Int.reduceSub, Int.reduceMul, Int.reduceToNat, Int.reduceNeg, Int.reduceEq, Nat.reducePow, Int.reducePow, Nat.reduceEqDiff, decide_true, decide_false, reduceIte, reduceCtorEq, Int.reduceBEq, Int.reduceBNe, bne_self_eq_false, Int.cast_ofNat_Int, Bool.not_true, Bool.not_false, IntKind.bits, w_nat, w_lit, w_add, w_addl, w_ladd, w_sub, w_subl, w_lsub, w_mul, w_mull, w_lmul, t_div, t_divl, t_mod, t_modl, i_lt, i_ltl, i_llt, i_le, i_lel, i_lle, i_eq, i_eql, i_leq, Nat.zero_le, d_beq, d_bne, d_bytes, byte_at, Int.toNat_natCast, toNat_lit, decide_eq_true, decide_eq_false, if_pos, if_neg, slA_len, slA_idx, slA_cells, flat_slA, one_slA, cells_slA, map_mid, strV_is, hp_get1, hp_get2, hp_get3, hp_set1, hp_set2, hp_set3, hp_old, hp_sold, set_got, set_set, set_next, set_other, bytesL, bytes_all, List.length_map, aapp_nils, aapp_wr, List.flatMap_cons, List.flatMap_nil, Nat.mul_one]
    exact aret_u hs (h)
  · have hlg := H.lt hg
    have hfl := flat_length _ _ (sps_len l)
    have hcell := fun i (hi : i < l.length) => sps_cell l hi
    rw [List.length_map] at hfl ⊢
    generalize (l.map spnV).flatMap AV.cells = R at *
    simp only [c100, go_sem, Nat.reduceLeDiff, Nat.reduceAdd, Nat.reduceSub, Nat.reduceMul, Nat.reduceLT, Int.reduceLT, Int.reduceLE, Int.reduceAdd, Int.reduceSub, Int.reduceMul, Int.reduceToNat, Int.reduceNeg, Int.reduceEq, Nat.reducePow, Int.reducePow, Nat.reduceEqDiff, decide_true, decide_false, reduceIte, reduceCtorEq, Int.reduceBEq, Int.reduceBNe, bne_self_eq_false, Int.cast_ofNat_Int, Bool.not_true, Bool.not_false, IntKind.bits]
    refine go_loopS mono (σ := Nat) (fun i => [(8, .int .i64 (i : Int))]) (fun i => hp H []) (fun i => i ≤ l.length ∧ ixSp p (l.drop i) i = ixSp p l 0) (fun i => l.length - i) 0 ?_ rfl ⟨by omega, rfl⟩ (fun i hi J hJ => ?_)
    · exact fgt
    obtain ⟨hil, hix⟩ := hi
    simp only [blurR_nil, blurR_some, blurR_none, blurC_region, blurC_regionN, blurC_fregion, blurT_nil, blurT_cons, blurC_seq, blurC_both, blurC_cond, blurC_block, blurC_loop, blurC_skip, blurC_exit, blurC_ret, tellS_nil, tellS_cons, List.set_cons_zero, List.set_cons_succ, tops_zero, tops_succ]
    by_cases h1 : i < l.length
    · have hcm := hcell i h1
      have hm := spE_mem h1
      rw [ixSp_drop p l i h1] at hix
      generalize l.getD i (0, 0) = x at *
      refine stp (And.intro hg hcm) ?_
      rw [← spV_is, hp_nil]
      refine hpp _ hm _ ?_
      rw [← hp_nil (H := H)]
      cases h2 : p x with
      | true =>
        rw [if_pos h2] at hix
        rw [← hix] at h
        refine stp0 ?_
        exact aret_u hs (h)
      | false =>
        rw [if_neg (by rw [h2]; exact Bool.false_ne_true)] at hix
        refine stp0 ?_
        exact hJ (i + 1) _ ⟨h1, hix⟩ (by omega) fgt
    · rw [List.drop_of_length_le (by omega)] at hix
      rw [← hix] at h
      refine stp0 ?_
      exact aret_u hs (h)
theorem deleteS_a {n0 : Nat} {v : AV} {l : List (Int × Int)} {p : (Int × Int) → Bool} {f : Nat} {cs : List AV} (hv : SlAt n0 H 93 2 v (l.map spnV)) (hn : l.length ≤ 100000)
    (hpp : ∀ x ∈ l, ∀ (G : AHeap) (K : AV → AHeap → Prop), K (.bool (p x)) G → (ACalls Tryz.prog) f ([] ++ [spnV x] ++ cs) G K)
    (h : ∀ v' G, SlAt n0 G 93 2 v' ((l.filter (fun x => !p x)).map spnV) → (∀ i, (∀ gen off len sz, v ≠ .wr i gen off len sz) → G.get i = H.get i) → G.next = H.next → (v' = .nils → v = .nils) → K v' G) :
    (ACalls Tryz.prog) 137 [v, .func (.func f) [] cs] H K := by
  refine acalls_go mo t137 (fun hs hu => ?_)
  simp only [c137, go_sem, Nat.reduceLeDiff, Nat.reduceAdd, Nat.reduceSub, Nat.reduceMul, Nat.reduceLT, Int.reduceLT, Int.reduceLE, Int.reduceAdd, Int.reduceSub, Int.reduceMul, Int.reduceToNat, Int.reduceNeg, Int.reduceEq, Nat.reducePow, Int.reducePow, Nat.reduceEqDiff, decide_true, decide_false, reduceIte, reduceCtorEq, Int.reduceBEq, Int.reduceBNe, bne_self_eq_false, Int.cast_ofNat_Int, Bool.not_true, Bool.not_false, IntKind.bits]
  refine sindexO_a (slat_hp hv []) hn (fun x hx K hk => hpp x hx _ K hk) ?_
  rcases ixSp_spec p l 0 with ⟨h1, h2⟩ | ⟨j0, h1, h2, h3, h4⟩
  · have hx := h v H (by rw [filterS_self h2]; exact hv) (fun _ _ => rfl) rfl (fun e => e)
    rw [h1]
    refine stp0 ?_
    rw [hp_nil]
    exact aret_full (Nat.le_refl _) hs (slat_under hv) hx
  · rw [h1, Nat.zero_add]
    rcases hv with ⟨rfl, he⟩ | ⟨id, gen, rfl, hid, hg⟩
    · have hl : l = [] := by simpa using he
      subst hl
      exact absurd h2 (Nat.not_lt_zero _)
    · have hlg := H.lt hg
      have hfl := flat_length _ _ (sps_len l)
      rw [List.length_map] at hfl ⊢
      have ht0 : (l.take (j0 + 1)).filter (fun x => !p x) = l.take j0 := by
        rw [List.take_add_one, List.filter_append, filterS_self h4, List.getElem?_eq_getElem h2]
        have : p l[j0] = true := by
          rw [List.getD_eq_getElem?_getD, List.getElem?_eq_getElem h2] at h3
          exact h3
        simp [this]
      refine stp0 ?_
      refine go_loopS mono (σ := AHeap × List AV × Nat × Nat) (fun z => [(5, .int .i64 (z.2.2.1 : Int)), (6, .int .i64 (z.2.2.2 : Int))]) (fun z => hp z.1 []) (fun z => Past (H.set id (.row 93 gen z.2.1)) z.1 ∧ z.2.1.length = l.length * 2 ∧ z.2.2.1 < z.2.2.2 ∧ z.2.2.2 ≤ l.length ∧ z.2.1.take (z.2.2.1 * 2) = (((l.take z.2.2.2).filter (fun x => !p x)).map spnV).flatMap AV.cells ∧ z.2.1.drop (z.2.2.2 * 2) = ((l.drop z.2.2.2).map spnV).flatMap AV.cells ∧ z.2.2.1 = ((l.take z.2.2.2).filter (fun x => !p x)).length) (fun z => l.length - z.2.2.2) (H, (l.map spnV).flatMap AV.cells, j0, j0 + 1) ?_ rfl ⟨⟨Nat.le_refl _, fun i hi => ?_⟩, hfl, Nat.lt_succ_self _, h2, ?_, ?_, ?_⟩ (fun z hz J hJ => ?_)
      · exact fgt
      · by_cases q : i = id
        · rw [q, set_got hlg, hg]
        · rw [set_other q]
      · show ((l.map spnV).flatMap AV.cells).take (j0 * 2) = _
        rw [ht0, flat_take _ _ (sps_len l) (by rw [List.length_map]; omega), List.map_take]
      · show ((l.map spnV).flatMap AV.cells).drop ((j0 + 1) * 2) = _
        rw [flat_drop _ _ (sps_len l) (by rw [List.length_map]; omega), List.map_drop]
      · show j0 = _
        rw [ht0, List.length_take]
        omega
      obtain ⟨G, R, i, j⟩ := z
      obtain ⟨hP, hRl, hij, hjl, hRt, hRd, hil⟩ := hz
      simp only at hP hRl hij hjl hRt hRd hil
      have hGn : H.next ≤ G.next := hP.next
      have hgG : G.get id = some (.row 93 gen R) := (hP.get id hlg).trans (set_got hlg)
      have hlG := G.lt hgG
      simp only [blurR_nil, blurR_some, blurR_none, blurC_region, blurC_regionN, blurC_fregion, blurT_nil, blurT_cons, blurC_seq, blurC_both, blurC_cond, blurC_block, blurC_loop, blurC_skip, blurC_exit, blurC_ret, tellS_nil, tellS_cons, List.set_cons_zero, List.set_cons_succ, tops_zero, tops_succ]
      by_cases d1 : j < l.length
      · have hm := spE_mem d1
        have hd : l.drop j = l.getD j (0, 0) :: l.drop (j + 1) := by rw [List.drop_eq_getElem_cons d1, List.getD_eq_getElem?_getD, List.getElem?_eq_getElem d1]; rfl
        have htk : (l.take (j + 1)).filter (fun x => !p x) = (l.take j).filter (fun x => !p x) ++ (if p (l.getD j (0, 0)) = true then [] else [l.getD j (0, 0)]) := by
          rw [List.take_add_one, List.getElem?_eq_getElem d1, List.filter_append, List.getD_eq_getElem?_getD, List.getElem?_eq_getElem d1]
          congr 1
          simp only [Option.toList, Option.getD_some, List.filter_cons, List.filter_nil]
          cases p l[j] <;> rfl
        have hcm : (R.drop (j * 2)).take 2 = [.int .i64 (l.getD j (0, 0)).1, .int .i64 (l.getD j (0, 0)).2] := by
          rw [hRd, hd]
          rfl
        have hRd2 : R.drop ((j + 1) * 2) = ((l.drop (j + 1)).map spnV).flatMap AV.cells := by
          rw [show (j + 1) * 2 = j * 2 + 2 by omega, ← List.drop_drop, hRd, hd]
          rfl
        have hJ2 := fun (G2 : AHeap) (R2 : List AV) (i2 : Nat) p1 p2 (p3 : i2 < j + 1) (p4 : R2.take (i2 * 2) = (((l.take j).filter (fun x => !p x) ++ (if p (l.getD j (0, 0)) = true then [] else [l.getD j (0, 0)])).map spnV).flatMap AV.cells) (p5 : R2.drop ((j + 1) * 2) = ((l.drop (j + 1)).map spnV).flatMap AV.cells) (p6 : i2 = ((l.take j).filter (fun x => !p x) ++ (if p (l.getD j (0, 0)) = true then [] else [l.getD j (0, 0)])).length) a' => hJ (G2, R2, i2, j + 1) a' ⟨p1, p2, p3, d1, by show R2.take (i2 * 2) = _; rw [p4, htk], p5, by show i2 = _; rw [p6, htk]⟩ (by show l.length - (j + 1) < l.length - j; omega)
        clear hJ
        generalize l.getD j (0, 0) = x at *
        refine stp (And.intro hgG hcm) ?_
        rw [← spV_is]
        refine hpp x hm _ _ ?_
        cases hpx : p x with
        | true =>
          rw [hpx, if_pos rfl, List.append_nil] at hJ2
          refine stp0 ?_
          rw [← hp_nil (H := hp G _)]
          exact hJ2 _ R i (past_hp hP _) hRl (by omega) hRt hRd2 hil _ fgt
        | false =>
          rw [hpx, if_neg Bool.false_ne_true] at hJ2
          refine stp hgG ?_
          rw [← hp_nil (H := hp (G.set id _) _)]
          have hA : (R.take (i * 2)).length = i * 2 := by rw [List.length_take]; omega
          have hAB : (R.take (i * 2) ++ [AV.int .i64 x.1, AV.int .i64 x.2]).length = i * 2 + 2 := by rw [List.length_append, hA]; rfl
          refine hJ2 _ (R.take (i * 2) ++ [.int .i64 x.1, .int .i64 x.2] ++ R.drop (i * 2 + 2)) (i + 1) (past_hp (past_reset hP hlg) _) (by rw [List.length_append, hAB, List.length_drop]; omega) (by omega) ?_ ?_ (by rw [List.length_append, ← hil]; rfl) _ fgt
          · rw [show (i + 1) * 2 = i * 2 + 2 by omega, List.take_left' hAB, hRt, List.map_append, List.flatMap_append]
            rfl
          · rw [List.drop_append, List.drop_of_length_le (by omega), List.nil_append, hAB, List.drop_drop, show i * 2 + 2 + ((j + 1) * 2 - (i * 2 + 2)) = (j + 1) * 2 by omega]
            exact hRd2
      · have hj : j = l.length := by omega
        subst hj
        rw [List.take_length] at hRt hil
        have hE : aclear 2 [.int .i64 0, .int .i64 0] (hp G []) (.wr id gen (i * 2) (l.length - i) 2) = some (hp (G.set id (.row 93 gen (R.take (i * 2) ++ (List.replicate (l.length - i) [AV.int .i64 0, AV.int .i64 0]).flatten ++ R.drop (i * 2 + (l.length - i) * 2)))) []) := by
          simp only [aclear, aclearC, hp_nil, hgG]
          rw [if_pos ⟨trivial, trivial, by omega⟩]
        have hR3 : (R.take (i * 2) ++ (List.replicate (l.length - i) [AV.int .i64 0, AV.int .i64 0]).flatten ++ R.drop (i * 2 + (l.length - i) * 2)).take (i * 2) = ((l.filter (fun x => !p x)).map spnV).flatMap AV.cells := by
          rw [List.append_assoc, List.take_append_of_le_length (by rw [List.length_take]; omega), List.take_take, Nat.min_self, hRt]
        generalize hR2 : R.take (i * 2) ++ (List.replicate (l.length - i) [AV.int .i64 0, AV.int .i64 0]).flatten ++ R.drop (i * 2 + (l.length - i) * 2) = R2 at *
        simp (maxSteps := 4000000) (disch := (first | omega | (simp only [set_next, List.length_append, List.length_cons, List.length_nil, List.length_take, List.length_drop, List.length_map, List.length_set, List.length_replicate]; omega) | (simp only [set_next, ne_eq, reduceCtorEq, not_false_eq_true]))) only [hgG, hE, Nat.sub_zero, true_or, go_sem, Nat.reduceLeDiff, Nat.reduceAdd, Nat.reduceSub, Nat.reduceMul, Nat.reduceLT, Int.reduceLT, Int.reduceLE, Int.reduceAdd, Int.reduceSub, Int.reduceMul, Int.reduceToNat, Int.reduceNeg, Int.reduceEq, Nat.reducePow, Int.reducePow, Nat.reduceEqDiff, decide_true, decide_false, reduceIte, reduceCtorEq, Int.reduceBEq, Int.reduceBNe, bne_self_eq_false, Int.cast_ofNat_Int, Bool.not_true, Bool.not_false, IntKind.bits, w_nat, w_lit, w_add, w_addl, w_ladd, w_sub, w_subl, w_lsub, w_mul, w_mull, w_lmul, t_div, t_divl, t_mod, t_modl, i_lt, i_ltl, i_llt, i_le, i_lel, i_lle, i_eq, i_eql, i_leq, Nat.zero_le, d_beq, d_bne, d_bytes, byte_at, Int.toNat_natCast, toNat_lit, decide_eq_true, decide_eq_false, if_pos, if_neg, slA_len, slA_idx, slA_cells, flat_slA, one_slA, cells_slA, map_mid, strV_is, hp_get1, hp_get2, hp_get3, hp_set1, hp_set2, hp_set3, hp_old, hp_sold, set_got, set_set, set_next, set_other, bytesL, bytes_all, List.length_map, aapp_nils, aapp_wr, List.flatMap_cons, List.flatMap_nil, Nat.mul_one]
        rw [hp_nil]
        have hP3 := past_reset (R' := R2.take (i * 2)) hP hlg
        have hw3 : (H.set id (.row 93 gen (R2.take (i * 2)))).within H.next := within_set hs (fun c hc => by
          rw [hR3] at hc
          obtain ⟨x, hx, hcx⟩ := List.mem_flatMap.1 hc
          exact sps_u _ _ x hx c hcx)
        refine ⟨(G.set id (.row 93 gen R2)).set id (.row 93 gen (R2.take (i * 2))), .wr id gen 0 i 2, H.next, .cut _ _ _ _ _ _ _ (set_got hlG), Nat.le_refl _, .wr _ _ _ _ _ hlg, ?_, ?_⟩
        · rw [set_set]
          show (G.set id (.row 93 gen (R2.take (i * 2)))).within (H.set id (.row 93 gen (R2.take (i * 2)))).next
          exact past_within hP3 hw3
        · rw [set_set, show (G.set id (.row 93 gen (R2.take (i * 2)))).trunc H.next = H.set id (.row 93 gen (R2.take (i * 2))) from past_trunc hP3]
          refine h _ _ (.inr ⟨id, gen, by rw [List.length_map, hil], hid, by rw [set_got hlg, hR3]⟩) (fun i2 hi2 => set_other (fun e => hi2 gen 0 (l.map spnV).length 2 (by rw [e]))) rfl (fun e => by cases e)
end
def mayS (p : Int × Int) : Bool := decide (0 ≤ p.1 ∧ p.1 ≤ 4294967295 ∧ 0 ≤ p.2 ∧ p.2 ≤ 4294967295)
def someS (p : Int × Int) : Bool := mayS p && decide (0 < p.2)
theorem someS_is {p : Int × Int} : someS p = true ↔ 0 ≤ p.1 ∧ p.1 ≤ 4294967295 ∧ 0 < p.2 ∧ p.2 ≤ 4294967295 := by
  unfold someS mayS
  rw [Bool.and_eq_true, decide_eq_true_eq, decide_eq_true_eq]
  constructor
  · rintro ⟨⟨a, b, c, d⟩, e⟩
    exact ⟨a, b, e, d⟩
  · rintro ⟨a, b, c, d⟩
    exact ⟨⟨a, b, Int.le_of_lt c, d⟩, c⟩
def inS (b : Int) (p : Int × Int) : Prop := p.1 ≤ b ∧ b < p.1 + p.2
def covJ (j : List (Int × Int)) (b : Int) : Prop := ∃ p ∈ j, inS b p
def inL (l : List (Int × Int)) (b : Int) : Prop := ∃ p ∈ l, someS p = true ∧ inS b p
def spB (p : Int × Int) : Prop := 0 ≤ p.1 ∧ 0 < p.2 ∧ p.1 + p.2 ≤ 8589934590
def SepJ (j : List (Int × Int)) : Prop := (∀ p ∈ j, spB p) ∧ j.Pairwise (fun p q => p.1 + p.2 < q.1)
theorem cov_nil (b : Int) : ¬ covJ [] b := fun ⟨_, h, _⟩ => nomatch h
theorem cov_cons (p : Int × Int) (j : List (Int × Int)) (b : Int) : covJ (p :: j) b ↔ inS b p ∨ covJ j b := by
  constructor
  · rintro ⟨q, hq, h⟩
    rcases List.mem_cons.1 hq with rfl | e
    · exact .inl h
    · exact .inr ⟨q, e, h⟩
  · rintro (h | ⟨q, hq, h⟩)
    · exact ⟨p, List.mem_cons_self, h⟩
    · exact ⟨q, List.mem_cons_of_mem _ hq, h⟩
theorem cov_app (j k : List (Int × Int)) (b : Int) : covJ (j ++ k) b ↔ covJ j b ∨ covJ k b := by
  constructor
  · rintro ⟨q, hq, h⟩
    rcases List.mem_append.1 hq with e | e
    · exact .inl ⟨q, e, h⟩
    · exact .inr ⟨q, e, h⟩
  · rintro (⟨q, hq, h⟩ | ⟨q, hq, h⟩)
    · exact ⟨q, List.mem_append_left _ hq, h⟩
    · exact ⟨q, List.mem_append_right _ hq, h⟩
theorem cov_one (p : Int × Int) (b : Int) : covJ [p] b ↔ inS b p := by
  rw [cov_cons]
  exact ⟨fun h => h.elim id (fun h => absurd h (cov_nil b)), .inl⟩
theorem sep_nil : SepJ [] := ⟨fun p h => (nomatch h), .nil⟩
theorem sep_unique : ∀ {j k : List (Int × Int)}, SepJ j → SepJ k → (∀ b, covJ j b ↔ covJ k b) → j = k
  | [], [], _, _, _ => rfl
  | [], q :: k, _, hk, h => by
    have hq := hk.1 q List.mem_cons_self
    unfold spB at hq
    exact absurd ((h q.1).2 ⟨q, List.mem_cons_self, by unfold inS; omega⟩) (cov_nil _)
  | p :: j, [], hj, _, h => by
    have hp := hj.1 p List.mem_cons_self
    unfold spB at hp
    exact absurd ((h p.1).1 ⟨p, List.mem_cons_self, by unfold inS; omega⟩) (cov_nil _)
  | p :: j, q :: k, hj, hk, h => by
    obtain ⟨hj1, hj2⟩ := hj
    obtain ⟨hk1, hk2⟩ := hk
    obtain ⟨a1, a2⟩ := List.pairwise_cons.1 hj2
    obtain ⟨b1, b2⟩ := List.pairwise_cons.1 hk2
    have hp := hj1 p List.mem_cons_self
    have hq := hk1 q List.mem_cons_self
    unfold spB at hp hq
    have lowj : ∀ b, covJ (p :: j) b → p.1 ≤ b := fun b hb => by
      rcases (cov_cons p j b).1 hb with e | ⟨x, hx, e⟩
      · exact e.1
      · have := a1 x hx
        have := e.1
        omega
    have lowk : ∀ b, covJ (q :: k) b → q.1 ≤ b := fun b hb => by
      rcases (cov_cons q k b).1 hb with e | ⟨x, hx, e⟩
      · exact e.1
      · have := b1 x hx
        have := e.1
        omega
    have e1 : p.1 = q.1 := by
      have := lowk p.1 ((h p.1).1 ⟨p, List.mem_cons_self, by unfold inS; omega⟩)
      have := lowj q.1 ((h q.1).2 ⟨q, List.mem_cons_self, by unfold inS; omega⟩)
      omega
    have e2 : ¬ p.1 + p.2 < q.1 + q.2 := fun hlt => by
      rcases (cov_cons p j _).1 ((h (p.1 + p.2)).2 ⟨q, List.mem_cons_self, by unfold inS; omega⟩) with e | ⟨x, hx, e⟩
      · unfold inS at e
        omega
      · have := a1 x hx
        unfold inS at e
        omega
    have e3 : ¬ q.1 + q.2 < p.1 + p.2 := fun hlt => by
      rcases (cov_cons q k _).1 ((h (q.1 + q.2)).1 ⟨p, List.mem_cons_self, by unfold inS; omega⟩) with e | ⟨x, hx, e⟩
      · unfold inS at e
        omega
      · have := b1 x hx
        unfold inS at e
        omega
    have e4 : p = q := Prod.ext e1 (by omega)
    subst e4
    congr 1
    refine sep_unique ⟨fun x hx => hj1 x (List.mem_cons_of_mem _ hx), a2⟩ ⟨fun x hx => hk1 x (List.mem_cons_of_mem _ hx), b2⟩ (fun b => ?_)
    have hb := h b
    rw [cov_cons, cov_cons] at hb
    constructor
    · rintro ⟨x, hx, e⟩
      have := a1 x hx
      rcases hb.1 (.inr ⟨x, hx, e⟩) with q | q
      · unfold inS at q e
        omega
      · exact q
    · rintro ⟨x, hx, e⟩
      have := b1 x hx
      rcases hb.2 (.inr ⟨x, hx, e⟩) with q | q
      · unfold inS at q e
        omega
      · exact q
theorem sep_push {j : List (Int × Int)} {x : Int × Int} (hj : SepJ j) (hx : spB x) (h : ∀ p ∈ j, p.1 + p.2 < x.1) : SepJ (j ++ [x]) := by
  refine ⟨fun p hp => ?_, List.pairwise_append.2 ⟨hj.2, List.pairwise_singleton _ _, fun p hp q hq => ?_⟩⟩
  · rcases List.mem_append.1 hp with e | e
    · exact hj.1 p e
    · rw [List.mem_singleton] at e
      rw [e]
      exact hx
  · rw [List.mem_singleton] at hq
    rw [hq]
    exact h p hp
theorem sep_last {j : List (Int × Int)} {q : Int × Int} (hj : SepJ (j ++ [q])) : SepJ j ∧ spB q ∧ ∀ p ∈ j, p.1 + p.2 < q.1 := by
  obtain ⟨h1, h2⟩ := hj
  obtain ⟨a, _, c⟩ := List.pairwise_append.1 h2
  exact ⟨⟨fun p hp => h1 p (List.mem_append_left _ hp), a⟩, h1 q (by simp), fun p hp => c p hp q (by simp)⟩
theorem sep_all {j : List (Int × Int)} {q p : Int × Int} (hj : SepJ (j ++ [q])) (hp : p ∈ j ++ [q]) : p.1 + p.2 ≤ q.1 + q.2 := by
  obtain ⟨h1, h2, h3⟩ := sep_last hj
  rcases List.mem_append.1 hp with e | e
  · have := h3 p e
    unfold spB at h2
    omega
  · rw [List.mem_singleton] at e
    rw [e]
    exact Int.le_refl _
theorem someS_b {p : Int × Int} (h : someS p = true) : spB p := by
  have := someS_is.1 h
  unfold spB
  omega
/-! ### joined by the program: one by one, in their order -/
structure MInv (done out : List (Int × Int)) : Prop where
  sep : SepJ out
  cov : ∀ b, covJ out b ↔ covJ done b
  last : ∀ o q, out = o ++ [q] → ∃ p ∈ done, q.1 = p.1
theorem m_start : MInv [] [] := ⟨sep_nil, fun _ => Iff.rfl, fun o q h => by simp at h⟩
theorem m_first {done : List (Int × Int)} {x : Int × Int} (h : MInv done []) (hx : spB x) : MInv (done ++ [x]) [x] :=
  ⟨by simpa using sep_push sep_nil hx (fun p hp => nomatch hp), fun b => by
    rw [cov_app, cov_one, ← h.cov b]
    exact ⟨.inr, fun q => q.elim (fun q => absurd q (cov_nil b)) id⟩, fun o q e => by
    have e2 : o = [] ∧ q = x := by
      cases o with
      | nil => simpa using e.symm
      | cons a o => simp at e
    exact ⟨x, by simp, by rw [e2.2]⟩⟩
theorem m_push {done o : List (Int × Int)} {q x : Int × Int} (h : MInv done (o ++ [q])) (hx : spB x) (hlt : q.1 + q.2 < x.1) : MInv (done ++ [x]) (o ++ [q] ++ [x]) :=
  ⟨sep_push h.sep hx (fun p hp => by have := sep_all h.sep hp; omega), fun b => by
    rw [cov_app, cov_app done, h.cov b], fun o2 q2 e => by
    have := List.append_inj_right' e rfl
    simp at this
    exact ⟨x, by simp, by rw [this]⟩⟩
theorem m_join {done o : List (Int × Int)} {q x : Int × Int} (h : MInv done (o ++ [q])) (hx : spB x) (hord : ∀ p ∈ done, p.1 ≤ x.1) (hle : x.1 ≤ q.1 + q.2) : MInv (done ++ [x]) (o ++ [(q.1, max (q.1 + q.2) (x.1 + x.2) - q.1)]) := by
  obtain ⟨s1, s2, s3⟩ := sep_last h.sep
  obtain ⟨p0, hp0, e0⟩ := h.last o q rfl
  have hq := hord p0 hp0
  unfold spB at s2 hx
  refine ⟨sep_push s1 (by unfold spB; simp only; omega) (fun p hp => by have := s3 p hp; exact this), fun b => ?_, fun o2 q2 e => ?_⟩
  · have hc := h.cov b
    rw [cov_app, cov_one] at hc
    rw [cov_app, cov_app, cov_one, cov_one, ← hc]
    unfold inS
    simp only
    constructor
    · rintro (e | e)
      · exact .inl (.inl e)
      · by_cases hb : b < q.1 + q.2
        · exact .inl (.inr ⟨e.1, hb⟩)
        · exact .inr (by omega)
    · rintro ((e | e) | e)
      · exact .inl e
      · exact .inr (by omega)
      · exact .inr (by omega)
  · have := List.append_inj_right' e rfl
    simp at this
    exact ⟨p0, by simp [hp0], by rw [← this]; exact e0⟩
/-! ### joined by the document: each run from where it begins up to its end -/
theorem snoc_ind {α : Type} {P : List α → Prop} (h0 : P []) (h1 : ∀ l x, P l → P (l ++ [x])) (l : List α) : P l := by
  have : ∀ l : List α, P l.reverse := by
    intro l
    induction l with
    | nil => exact h0
    | cons x l ih =>
      rw [List.reverse_cons]
      exact h1 _ _ ih
  have h := this l.reverse
  rwa [List.reverse_reverse] at h
def JoinOf (l J : List (Int × Int)) : Prop := SepJ J ∧ ∀ b, covJ J b ↔ inL l b
/-! ### two that have the same bytes are one -/
theorem join_one {l J J2 : List (Int × Int)} (h : JoinOf l J) (h2 : JoinOf l J2) : J = J2 := sep_unique h.1 h2.1 (fun b => (h.2 b).trans (h2.2 b).symm)
theorem sp_step {j : List (Int × Int)} {i : Nat} (h : i < j.length) : j.take (i + 1) = j.take i ++ [j.getD i (0, 0)] := by
  rw [List.take_add_one, List.getElem?_eq_getElem h, List.getD_eq_getElem?_getD, List.getElem?_eq_getElem h]
  rfl
theorem sp_mem {j : List (Int × Int)} {i : Nat} (h : i < j.length) : j.getD i (0, 0) ∈ j := by
  rw [List.getD_eq_getElem?_getD, List.getElem?_eq_getElem h]
  exact List.getElem_mem h
theorem wrapI {a : Int} (h1 : -9223372036854775808 ≤ a) (h2 : a ≤ 9223372036854775807) : IntKind.i64.wrap a = a := by
  simp only [IntKind.wrap, IntKind.bits, IntKind.signed]
  simp
  omega
section
variable {H : AHeap} {K : AV → AHeap → Prop}
theorem sMay_a {p : Int × Int} (h : K (.bool (mayS p)) H) : (ACalls Tryz.prog) 149 [spnV p] H K := by
  refine acalls_go mo t149 (fun hs hu => ?_)
  unfold mayS at h
  simp only [c149, spV_is, go_sem, Nat.reduceLeDiff, Nat.reduceAdd, Nat.reduceSub, Nat.reduceMul, Nat.reduceLT, Int.reduceLT, Int.reduceLE, Int.reduceAdd, Int.reduceSub, Int.reduceMul, Int.reduceToNat, Int.reduceNeg, Int.reduceEq, Nat.reducePow, Int.reducePow, Nat.reduceEqDiff, decide_true, decide_false, reduceIte, reduceCtorEq, Int.reduceBEq, Int.reduceBNe, bne_self_eq_false, Int.cast_ofNat_Int, Bool.not_true, Bool.not_false, IntKind.bits]
  by_cases h1 : 0 ≤ p.1
  · by_cases h2 : p.1 ≤ 4294967295
    · by_cases h3 : 0 ≤ p.2
      · by_cases h4 : p.2 ≤ 4294967295
        · rw [decide_eq_true ⟨h1, h2, h3, h4⟩] at h
          refine stp (And.intro h1 (And.intro h2 (And.intro h3 h4))) ?_
          exact aret_u hs (h)
        · rw [decide_eq_false (fun q => h4 q.2.2.2)] at h
          refine stp (And.intro h1 (And.intro h2 (And.intro h3 h4))) ?_
          exact aret_u hs (h)
      · rw [decide_eq_false (fun q => h3 q.2.2.1)] at h
        refine stp (And.intro h1 (And.intro h2 h3)) ?_
        exact aret_u hs (h)
    · rw [decide_eq_false (fun q => h2 q.2.1)] at h
      refine stp (And.intro h1 h2) ?_
      exact aret_u hs (h)
  · rw [decide_eq_false (fun q => h1 q.1)] at h
    refine stp h1 ?_
    exact aret_u hs (h)
theorem some_a {p : Int × Int} (h : K (.bool (someS p)) H) : (ACalls Tryz.prog) 98 [spnV p] H K := by
  refine acalls_go mo t98 (fun hs hu => ?_)
  unfold someS at h
  simp only [c98, spV_is, go_sem, Nat.reduceLeDiff, Nat.reduceAdd, Nat.reduceSub, Nat.reduceMul, Nat.reduceLT, Int.reduceLT, Int.reduceLE, Int.reduceAdd, Int.reduceSub, Int.reduceMul, Int.reduceToNat, Int.reduceNeg, Int.reduceEq, Nat.reducePow, Int.reducePow, Nat.reduceEqDiff, decide_true, decide_false, reduceIte, reduceCtorEq, Int.reduceBEq, Int.reduceBNe, bne_self_eq_false, Int.cast_ofNat_Int, Bool.not_true, Bool.not_false, IntKind.bits]
  rw [← spV_is]
  refine sMay_a ?_
  cases h1 : mayS p with
  | false =>
    rw [h1, Bool.false_and] at h
    refine stp0 ?_
    exact aret_u hs (h)
  | true =>
    rw [h1, Bool.true_and] at h
    refine stp0 ?_
    exact aret_u hs (h)
end
section
variable {H : AHeap} {K : AV → AHeap → Prop}
theorem same07_a {k k2 : Nat} {l : List (Int × Int)} (hn : l.length ≤ 1000000) (h : K (.bool true) H) : (ACalls Tryz.prog) 36 [slA k 2 (l.map spnV), slA k2 2 (l.map spnV)] H K := by
  refine acalls_go mo t36 (fun hs hu => ?_)
  simp only [c36, go_sem, Nat.reduceLeDiff, Nat.reduceAdd, Nat.reduceSub, Nat.reduceMul, Nat.reduceLT, Int.reduceLT, Int.reduceLE, Int.reduceAdd, Int.reduceSub, Int.reduceMul, Int.reduceToNat, Int.reduceNeg, Int.reduceEq, Nat.reducePow, Int.reducePow, Nat.reduceEqDiff, decide_true, decide_false, reduceIte, reduceCtorEq, Int.reduceBEq, Int.reduceBNe, bne_self_eq_false, Int.cast_ofNat_Int, Bool.not_true, Bool.not_false, IntKind.bits]
  simp (maxSteps := 4000000) (disch := (first | omega | (simp only [set_next, List.length_append, List.length_cons, List.length_nil, List.length_take, List.length_drop, List.length_map, List.length_set, List.length_replicate]; omega) | (simp only [set_next, ne_eq, reduceCtorEq, not_false_eq_true]))) only [bne_self_eq_false, go_sem, Nat.reduceLeDiff, Nat.reduceAdd, Nat.reduceSub, Nat.reduceMul, Nat.reduceLT, Int.reduceLT, Int.reduceLE, Int.reduceAdd, Int.reduceSub, Int.reduceMul, Int.reduceToNat, Int.reduceNeg, Int.reduceEq, Nat.reducePow, Int.reducePow, Nat.reduceEqDiff, decide_true, decide_false, reduceIte, reduceCtorEq, Int.reduceBEq, Int.reduceBNe, bne_self_eq_false, Int.cast_ofNat_Int, Bool.not_true, Bool.not_false, IntKind.bits, w_nat, w_lit, w_add, w_addl, w_ladd, w_sub, w_subl, w_lsub, w_mul, w_mull, w_lmul, t_div, t_divl, t_mod, t_modl, i_lt, i_ltl, i_llt, i_le, i_lel, i_lle, i_eq, i_eql, i_leq, Nat.zero_le, d_beq, d_bne, d_bytes, byte_at, Int.toNat_natCast, toNat_lit, decide_eq_true, decide_eq_false, if_pos, if_neg, slA_len, slA_idx, slA_cells, flat_slA, one_slA, cells_slA, map_mid, strV_is, hp_get1, hp_get2, hp_get3, hp_set1, hp_set2, hp_set3, hp_old, hp_sold, set_got, set_set, set_next, set_other, bytesL, bytes_all, List.length_map, aapp_nils, aapp_wr, List.flatMap_cons, List.flatMap_nil, Nat.mul_one]
  refine go_loopS mono (σ := Nat) (fun z => [(5, .int .i64 (z : Int))]) (fun z => hp H []) (fun z => z ≤ l.length) (fun z => l.length - z) 0 ?_ rfl (Nat.zero_le _) (fun i hz J hJ => ?_)
  · exact fgt
  have hil : i ≤ l.length := hz
  simp only [blurR_nil, blurR_some, blurR_none, blurC_region, blurC_regionN, blurC_fregion, blurT_nil, blurT_cons, blurC_seq, blurC_both, blurC_cond, blurC_block, blurC_loop, blurC_skip, blurC_exit, blurC_ret, tellS_nil, tellS_cons, List.set_cons_zero, List.set_cons_succ, tops_zero, tops_succ]
  by_cases d1 : i < l.length
  · have ha := spE_at d1
    simp (maxSteps := 4000000) (disch := (first | omega | (simp only [set_next, List.length_append, List.length_cons, List.length_nil, List.length_take, List.length_drop, List.length_map, List.length_set, List.length_replicate]; omega) | (simp only [set_next, ne_eq, reduceCtorEq, not_false_eq_true]))) only [ha, spnV_cells, beq_self_eq_true, go_sem, Nat.reduceLeDiff, Nat.reduceAdd, Nat.reduceSub, Nat.reduceMul, Nat.reduceLT, Int.reduceLT, Int.reduceLE, Int.reduceAdd, Int.reduceSub, Int.reduceMul, Int.reduceToNat, Int.reduceNeg, Int.reduceEq, Nat.reducePow, Int.reducePow, Nat.reduceEqDiff, decide_true, decide_false, reduceIte, reduceCtorEq, Int.reduceBEq, Int.reduceBNe, bne_self_eq_false, Int.cast_ofNat_Int, Bool.not_true, Bool.not_false, IntKind.bits, w_nat, w_lit, w_add, w_addl, w_ladd, w_sub, w_subl, w_lsub, w_mul, w_mull, w_lmul, t_div, t_divl, t_mod, t_modl, i_lt, i_ltl, i_llt, i_le, i_lel, i_lle, i_eq, i_eql, i_leq, Nat.zero_le, d_beq, d_bne, d_bytes, byte_at, Int.toNat_natCast, toNat_lit, decide_eq_true, decide_eq_false, if_pos, if_neg, slA_len, slA_idx, slA_cells, flat_slA, one_slA, cells_slA, map_mid, strV_is, hp_get1, hp_get2, hp_get3, hp_set1, hp_set2, hp_set3, hp_old, hp_sold, set_got, set_set, set_next, set_other, bytesL, bytes_all, List.length_map, aapp_nils, aapp_wr, List.flatMap_cons, List.flatMap_nil, Nat.mul_one]
    exact hJ (i + 1) _ d1 (by omega) fgt
  · refine stp0 ?_
    exact aret_u hs (h)
end
section
variable {H : AHeap} {K : AV → AHeap → Prop}
end
section
variable {H : AHeap} {K : AV → AHeap → Prop}
end
end Go.Proofs.YtmdgjfadbhenjaaGreatDoor.AL
