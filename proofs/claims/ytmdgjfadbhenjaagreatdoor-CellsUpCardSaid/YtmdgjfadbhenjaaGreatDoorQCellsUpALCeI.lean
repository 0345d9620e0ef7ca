/- Cells told: the law of the way up. -/
import Derived.Test.YtmdgjfadbhenjaaGreatDoorQCellsUpALSortS
import Derived.Test.YtmdgjfadbhenjaaGreatDoorQCellsUpALPat2
set_option linter.unusedSimpArgs false
set_option linter.unusedVariables false
set_option maxRecDepth 100000
set_option maxHeartbeats 16000000
namespace Go.Proofs.YtmdgjfadbhenjaaGreatDoor.AL
open Go Go.Proofs
attribute [local go_sem] go_seq go_skip go_region go_regionN go_fregion rgF_some go_cond go_block go_exit go_ret nxt_nil nxt_code nxt_blk nxt_cut leave_nil leave_code leave_cut leave_blk rtn_nil rtn_code rtn_blk rtn_cut cnd_t cnd_f rgn_nil rgY_some rgY_none rgH_some rgP_some retTo_is rgV_func grd_und grd_tt grd_ff grd_tf grd_ft rgn_q rgn_alloc rgn_box rgn_store rgn_lit rgn_litw rgn_litc litCells_nil litCells_cons rgn_app rgn_copy rgn_mk rgn_s2b rgn_call rgn_callv rgn_stop rgn_slice3 aslice3 rgn_slice3l aslice3l rgn_appz rgn_clear rgn_range rgn_next arange acap rgn_put rgn_mkmap rgn_lookup rgn_mapup alookup_nilm alookup_map amapup_map afound_ok afound_no rgn_c rgn_cv qclV_func aloadr rgn_guard post_ret post_normal retY_some ares aresL ares1 AX.ev aput List.getD_cons_zero List.getD_cons_succ List.set_cons_zero List.set_cons_succ List.map_cons List.map_nil aq abin aint astr abeq aconv asame aextract alenS alenL_nils alenL_emp alenL_imm alenL_wr alenL_wc aun apart aload afieldAddr afield aidxSl_wr aidxSl_wc aidxSl_imm aidxPt aidxStr aidxArr abound asliceStr asliceSl asliceArr abest anonil afill astore acells_nils acells_emp acells_imm acells_wr acells_wc acells_str acopy litAll amk as2b anil nilOf aseq aeqs aeqv fits fit1 hp_next hp_push hp_get hp_set List.length_cons List.length_nil List.getElem?_cons_zero List.getElem?_cons_succ List.cons_append List.nil_append List.append_nil List.take_succ_cons List.take_zero List.drop_succ_cons List.drop_zero List.all_cons List.all_nil Option.map_some Option.some.injEq Bool.and_true Bool.true_and Bool.false_eq_true if_true if_false ite_true ite_false Bool.and_self true_and and_true and_self Nat.zero_add Nat.le_refl Int.toNat_natCast beq_self_eq_true eq_self tops_zero tops_succ Int.natCast_nonneg List.take_nil List.drop_nil Option.map_none flat_bool one_bool cells_bool flat_int one_int cells_int flat_str one_str cells_str flat_nilp one_nilp cells_nilp flat_ptr one_ptr cells_ptr flat_nils one_nils cells_nils flat_imm one_imm cells_imm flat_wr one_wr cells_wr flat_wc one_wc cells_wc flat_func one_func cells_func flat_nilf one_nilf cells_nilf flat_map one_map cells_map flat_nilm one_nilm cells_nilm flat_iface one_iface cells_iface flat_nili one_nili cells_nili flat_rd one_rd cells_rd flat_emp one_emp cells_emp flat_byteV one_byteV cells_byteV flat_agg cells_agg one_agg B_size B_list B_ext B_toList B_app List.take_length Int.le_refl
theorem upL_nz (t : Tr) (ns : List (List UInt8)) : ∀ (k : Nat) (b : Int), ¬ (upL t ns k b).2 = 0 → (upL t ns k b).1 = 0
  | 0, b, h => absurd rfl h
  | k + 1, b, h => by
    rw [upL] at h ⊢
    split at h
    · rename_i he
      rw [if_pos he]
      exact upL_nz t ns k _ h
    · rename_i he
      rw [if_neg he]
theorem upS_nz {t : Tr} {p : List UInt8} {b : Int} (h : ¬ (upS t p b).2 = 0) : (upS t p b).1 = 0 := by
  unfold upS at h ⊢
  split at h
  · split at h
    · rename_i hi
      rw [if_pos hi]
      exact upL_nz _ _ _ _ h
    · rename_i hi
      rw [if_neg hi]
  · rfl
theorem walkTo_appendC : ∀ (ns r : List (List UInt8)) (t : Tr), walkTo t (ns ++ r) = (walkTo t ns).bind (fun x => walkTo x r)
  | [], r, t => rfl
  | nm :: ns, r, t => by
    rw [List.cons_append, walkTo, walkTo]
    cases kidT t nm with
    | none => rfl
    | some k => exact walkTo_appendC ns r k
theorem walkTo_take {t k : Tr} {ns : List (List UInt8)} (h : walkTo t ns = some k) (i : Nat) : ∃ x, walkTo t (ns.take i) = some x := by
  rw [← List.take_append_drop i ns, walkTo_appendC] at h
  cases hw : walkTo t (ns.take i) with
  | none => rw [hw] at h; cases h
  | some x => exact ⟨x, rfl⟩
theorem upL_take (t : Tr) (ns : List (List UInt8)) (n : Nat) : ∀ (k : Nat) (b : Int), k ≤ n → upL t (ns.take n) k b = upL t ns k b
  | 0, b, _ => rfl
  | k + 1, b, h => by
    rw [upL, upL, List.take_take, Nat.min_eq_left h]
    split
    · exact upL_take t ns n k _ (by omega)
    · rfl
theorem step_find {t : Tr} {p : List UInt8} {b : Int} (h : (stepS t p b).2 = 0) : (∃ k, findT t p = some k) ∧ in32 b = true := by
  unfold stepS at h
  rcases fam_cases t p with ⟨_, hfo⟩ | ⟨_, _, _, hfo⟩ | ⟨k, ns, hf, hpp, h0, hpr, hfo⟩
  · rw [hfo] at h; cases h
  · rw [hfo] at h; cases h
  · rw [hfo] at h
    refine ⟨⟨k, hf⟩, Classical.byContradiction (fun hn => ?_)⟩
    simp only at h
    rw [if_neg hn] at h
    cases h
theorem up_step {t : Tr} {p : List UInt8} {ns : List (List UInt8)} {b : Int} (hpp : partsP p = some ns) (h0 : ns ≠ []) :
    (¬ (stepS t p b).2 = 0 → ¬ (upS t p b).2 = 0) ∧ ((stepS t p b).2 = 0 → upS t p b = upS t (joinPs (ns.take (ns.length - 1))) (stepS t p b).1) := by
  have hl := List.length_pos_iff.2 h0
  obtain ⟨m, hm⟩ : ∃ m, ns.length = m + 1 := ⟨ns.length - 1, by omega⟩
  have hpj : joinPs (ns.take (m + 1)) = p := by rw [← hm, List.take_of_length_le (Nat.le_refl _), parts_join hpp]
  constructor
  · intro he hu
    apply he
    unfold upS at hu
    rw [hpp] at hu
    cases hf : findT t p with
    | none => rw [hf] at hu; cases hu
    | some k =>
      rw [hf] at hu
      simp only at hu
      split at hu
      · rw [hm, upL, hpj] at hu
        rw [if_neg he] at hu
        exact absurd hu he
      · cases hu
  · intro he
    obtain ⟨⟨k, hf⟩, hb⟩ := step_find he
    have hx := in32_is.2 (stepS_32 he)
    have hp2 := parts_take hpp (ns.length - 1)
    have hw : walkTo t ns = some k := by unfold findT at hf; rw [hpp] at hf; exact hf
    obtain ⟨x, hx2⟩ := walkTo_take hw (ns.length - 1)
    have hf2 : findT t (joinPs (ns.take (ns.length - 1))) = some x := by unfold findT; rw [hp2]; exact hx2
    have e1 : upS t p b = upL t ns ns.length b := by
      unfold upS
      rw [hpp, hf]
      simp only
      rw [if_pos hb]
    have e2 : upS t (joinPs (ns.take (ns.length - 1))) (stepS t p b).1 = upL t (ns.take (ns.length - 1)) (ns.take (ns.length - 1)).length (stepS t p b).1 := by
      unfold upS
      rw [hp2, hf2]
      simp only
      rw [if_pos hx]
    rw [e1, e2, hm, upL, hpj, if_pos he, show m + 1 - 1 = m by omega, List.length_take, hm, Nat.min_eq_left (by omega)]
    exact (upL_take t ns m m _ (Nat.le_refl _)).symm
/-- Whether a node on the way has an empty ranges. -/
def rngB (t : Tr) (ns : List (List UInt8)) (j : Nat) : Bool := (findT t (joinPs (ns.take (j + 1)))).isSome && (valT ((findT t (joinPs (ns.take (j + 1)))).getD tr0) kRng).isSome && decide ((valT ((findT t (joinPs (ns.take (j + 1)))).getD tr0) kRng).getD [] = [])
theorem step_rng {t : Tr} {p : List UInt8} {ns : List (List UInt8)} (hpp : partsP p = some ns) {j : Nat} (hj : j < ns.length) {b : Int} (hb : in32 b = true) (h : rngB t ns j = true) : stepS t (joinPs (ns.take (j + 1))) b = (b, 0) := by
  unfold rngB at h
  simp only [Bool.and_eq_true, decide_eq_true_eq] at h
  obtain ⟨⟨h1, h2⟩, h3⟩ := h
  have hne : ns.take (j + 1) ≠ [] := fun e => by
    have := congrArg List.length e
    rw [List.length_take, List.length_nil] at this
    omega
  unfold stepS
  rcases fam_cases t (joinPs (ns.take (j + 1))) with ⟨hf, hfo⟩ | ⟨_, _, hr, hfo⟩ | ⟨k, ns2, hf, hp2, h0, hpr, hfo⟩
  · rw [hf] at h1; cases h1
  · exact absurd ((joinPs_root (fun s hs => parts_good hpp s (List.mem_of_mem_take hs))).1 hr) hne
  · rw [hfo]
    simp only
    rw [if_pos hb]
    rw [hf, Option.getD_some] at h2 h3
    cases hv : valT k kRng with
    | none => rw [hv] at h2; cases h2
    | some v =>
      rw [hv] at h3
      have h3 : v = [] := h3
      simp only
      rw [if_pos h3]
theorem upL_rng {t : Tr} {p : List UInt8} {ns : List (List UInt8)} (hpp : partsP p = some ns) {b : Int} (hb : in32 b = true) : ∀ k, k ≤ ns.length → (∀ j, j < ns.length → rngB t ns j = true) → upL t ns k b = (b, 0)
  | 0, _, _ => rfl
  | k + 1, hk, h => by
    rw [upL, step_rng hpp (by omega) hb (h k (by omega)), if_pos rfl]
    exact upL_rng hpp hb k (by omega) h
theorem upS_rng {t : Tr} {p : List UInt8} {ns : List (List UInt8)} (hpp : partsP p = some ns) (h0 : ns ≠ []) {b : Int} (hb : in32 b = true) (h : ∀ j, j < ns.length → rngB t ns j = true) : upS t p b = (b, 0) := by
  have hl := List.length_pos_iff.2 h0
  have hlast := h (ns.length - 1) (by omega)
  unfold rngB at hlast
  simp only [Bool.and_eq_true] at hlast
  have hf := hlast.1.1
  rw [show ns.length - 1 + 1 = ns.length by omega, List.take_of_length_le (Nat.le_refl _), parts_join hpp] at hf
  obtain ⟨k, hk⟩ := Option.isSome_iff_exists.1 hf
  unfold upS
  rw [hpp, hk]
  simp only
  rw [if_pos hb]
  exact upL_rng hpp hb ns.length (Nat.le_refl _) h
theorem upS_root {t : Tr} {p : List UInt8} (hpp : partsP p = some []) (b : Int) : upS t p b = if in32 b = true then (b, 0) else (0, 1) := by
  have hf : findT t p = some t := by unfold findT; rw [hpp]; rfl
  unfold upS
  rw [hpp, hf]
  rfl
theorem law_CellsUp (ys0 : List AV) (a1 : ByteArray) (a2 : Int) (hY0 : YTr ys0) (w1 : a1.size ≤ 140737488351232) {H : AHeap} : (ACalls Tryz.prog) 11 [.agg ys0, .str a1, .int .i64 a2] H (fun y _ => y = .bool true) := by
  obtain ⟨t, ho, rfl⟩ := hY0
  have hVi := Tr.V_is t
  have hpl : a1.data.toList.length ≤ 140737488351232 := by rw [Array.length_toList]; exact w1
  rw [show AV.agg t.cells = t.V from rfl, ← B_of a1]
  generalize a1.data.toList = p at *
  refine acalls_go mo t11 (fun hs hu => ?_)
  simp only [c11, Tr.V_is, go_sem, Nat.reduceLeDiff, Nat.reduceAdd, Nat.reduceSub, Nat.reduceMul, Nat.reduceLT, Int.reduceLT, Int.reduceLE, Int.reduceAdd, Int.reduceSub, Int.reduceMul, Int.reduceToNat, Int.reduceNeg, Int.reduceEq, Nat.reducePow, Int.reducePow, Nat.reduceEqDiff, decide_true, decide_false, reduceIte, reduceCtorEq, Int.reduceBEq, Int.reduceBNe, bne_self_eq_false, Int.cast_ofNat_Int, Bool.not_true, Bool.not_false, IntKind.bits]
  refine rParts_a (by omega) (fun k => ?_)
  have hpart : ∃ (b : Bool) (k2 : Nat) (ns : List (List UInt8)), partsV k (partsP p) = .tup [slA k2 1 (ns.map strV), .bool b] ∧ (b = true → partsP p = some ns) := by
    cases hpp : partsP p with
    | none => exact ⟨false, 0, [], rfl, fun h => by cases h⟩
    | some ns => exact ⟨true, k, ns, rfl, fun _ => rfl⟩
  obtain ⟨bb, k2, ns, e, hpp⟩ := hpart
  rw [e]
  refine stp0 ?_
  rw [← hVi]
  refine Low_a ho ?_
  cases hw : tLow t with
  | false =>
    refine stp0 ?_
    refine awake48_a ?_
    refine stp0 ?_
    exact aret_plain (K := fun y _ => y = .bool true) hs (.bool _) rfl
  | true =>
    have hl12 := low12 hw
    have htm := trm_low 12 t hl12
    by_cases h1 : p.length ≤ 200
    · cases bb with
      | false =>
        refine stp h1 ?_
        refine awake48_a ?_
        refine stp0 ?_
        exact aret_plain (K := fun y _ => y = .bool true) hs (.bool _) rfl
      | true =>
        have hpp := hpp rfl
        have h8 := partsP_le hpp
        refine stp h1 ?_
        rw [← hVi]
        refine up_a (by omega) htm (by omega) ?_
        rw [hVi]
        have hnz := upS_nz (t := t) (p := p) (b := a2)
        by_cases h0 : ns = []
        · subst h0
          have hr := upS_root (t := t) hpp a2
          rw [hr]
          clear hr hnz
          by_cases hi : in32 a2 = true
          · rw [if_pos hi]
            obtain ⟨i1, i2⟩ := in32_is.1 hi
            refine stp (And.intro i1 i2) ?_
            refine awake48_a ?_
            refine stp0 ?_
            exact aret_plain (K := fun y _ => y = .bool true) hs (.bool _) rfl
          · rw [if_neg hi]
            rw [in32_is] at hi
            by_cases i1 : 0 ≤ a2
            · have i2 : ¬ a2 ≤ 4294967295 := fun q => hi ⟨i1, q⟩
              refine stp (And.intro i1 i2) ?_
              refine awake48_a ?_
              refine stp0 ?_
              exact aret_plain (K := fun y _ => y = .bool true) hs (.bool _) rfl
            · refine stp i1 ?_
              refine awake48_a ?_
              refine stp0 ?_
              exact aret_plain (K := fun y _ => y = .bool true) hs (.bool _) rfl
        · have hln := List.length_pos_iff.2 h0
          have hn0 : ¬ ns.length = 0 := by omega
          obtain ⟨us1, us2⟩ := up_step (t := t) (b := a2) hpp h0
          have hrng := fun hb => upS_rng (t := t) (b := a2) hpp h0 hb
          generalize hU : upS t p a2 = U at *
          have hU2 : ¬ U.2 = 0 ∧ U.1 = 0 ∨ U.2 = 0 := by
            by_cases q : U.2 = 0
            · exact .inr q
            · exact .inl ⟨q, hnz q⟩
          have hb0 : ∃ b0 : Bool, b0 = in32 a2 := ⟨_, rfl⟩
          obtain ⟨b0, hb0⟩ := hb0
          have hi3 : (b0 = true ∧ 0 ≤ a2 ∧ a2 ≤ 4294967295) ∨ (b0 = false ∧ 0 ≤ a2 ∧ ¬ a2 ≤ 4294967295) ∨ (b0 = false ∧ ¬ 0 ≤ a2) := by
            by_cases i1 : 0 ≤ a2
            · by_cases i2 : a2 ≤ 4294967295
              · exact .inl ⟨by rw [hb0]; exact in32_is.2 ⟨i1, i2⟩, i1, i2⟩
              · exact .inr (.inl ⟨by rw [hb0, ← Bool.not_eq_true, in32_is]; exact fun q => i2 q.2, i1, i2⟩)
            · exact .inr (.inr ⟨by rw [hb0, ← Bool.not_eq_true, in32_is]; exact fun q => i1 q.1, i1⟩)
          rcases hU2 with ⟨u2, u1⟩ | u2
          case' inl => refine stp (And.intro u2 (And.intro u1 hn0)) ?_
          case' inr => refine stp (And.intro u2 hn0) ?_
          all_goals
            rcases hi3 with ⟨rfl, i1, i2⟩ | ⟨rfl, i1, i2⟩ | ⟨rfl, i1⟩
          all_goals first | (refine stp (And.intro i1 i2) ?_) | (refine stp i1 ?_)
          all_goals
            have hln8 : ns.length < 9223372036854775808 := by omega
            refine go_loopS mono (σ := AHeap × Bool × Nat) (fun z => [(11, .bool z.2.1), (12, .int .i64 (z.2.2 : Int))]) (fun z => hp z.1 []) (fun z => (Past H z.1 ∧ H.next + 1 ≤ z.1.next) ∧ z.1.get (H.next + 0) = some (trRow t) ∧ z.2.2 ≤ ns.length ∧ z.2.1 = (in32 a2 && (List.range z.2.2).all (rngB t ns))) (fun z => ns.length - z.2.2) (hp H [trRow t], in32 a2, 0) ?_ (by rw [hp_nil]; simp only [trRow_is]) ⟨⟨past_hp past_refl _, Nat.le_refl _⟩, hp_get _ _ 0, Nat.zero_le _, by simp⟩ (fun z hz J hJ => ?_)
            · rw [← hb0]
              exact fgt
          all_goals
            obtain ⟨G, b, i⟩ := z
            obtain ⟨⟨hG, hGn⟩, hg0, hil, hbe⟩ := hz
            simp only at hG hGn hg0 hil hbe
            have hl0 := G.lt hg0
            have hg0' := hg0
            rw [trRow_is] at hg0'
            simp only [blurR_nil, blurR_some, blurR_none, blurC_region, blurC_regionN, blurC_fregion, blurT_nil, blurT_cons, blurC_seq, blurC_both, blurC_cond, blurC_block, blurC_loop, blurC_skip, blurC_exit, blurC_ret, tellS_nil, tellS_cons, List.set_cons_zero, List.set_cons_succ, tops_zero, tops_succ]
            by_cases hi : i < ns.length
            · have hJ2 := fun (G2 : AHeap) (b2 : Bool) p1 p2 p3 a' => hJ (G2, b2, i + 1) a' ⟨p1, p2, hi, p3⟩ (by show ns.length - (i + 1) < ns.length - i; omega)
              clear hJ
              obtain ⟨j1, j2, j3⟩ := joins_le hpp (by omega) (i + 1)
              have hjl := joinPs_le hpp (i + 1)
              obtain ⟨k4, e2⟩ := slA_cut k2 1 (ns.map strV) (i := i + 1) (by rw [List.length_map]; omega)
              rw [← List.map_take] at e2
              simp only [asliceSl, abound] at e2
              have hget0 : ∀ l : List AObj, (hp G l).get (H.next + 0) = some (trRow t) := fun l => (hp_old hl0).trans hg0
              refine stp (And.intro hi (And.intro e2 hg0')) ?_
              refine ⟨_, rJoin_a j1 j2 ⟨rfl, rfl⟩, ?_⟩
              refine stp hg0' ?_
              rw [← hVi]
              refine find_a ho (by omega) ?_
              rw [foundV_is]
              have hst : (in32 a2 && (List.range (i + 1)).all (rngB t ns)) = (b && rngB t ns i) := by
                rw [List.range_succ, List.all_append, hbe]
                simp [Bool.and_assoc]
              simp only [hst] at hJ2
              have m2 : TrM 300 ((findT t (joinPs (ns.take (i + 1)))).getD tr0) := by
                cases hq : findT t (joinPs (ns.take (i + 1))) with
                | none => exact trm_0 _
                | some q => exact findT_m htm hq
              have hrb : rngB t ns i = ((findT t (joinPs (ns.take (i + 1)))).isSome && (valT ((findT t (joinPs (ns.take (i + 1)))).getD tr0) [114, 97, 110, 103, 101, 115]).isSome && decide ((valT ((findT t (joinPs (ns.take (i + 1)))).getD tr0) [114, 97, 110, 103, 101, 115]).getD [] = [])) := rfl
              generalize findT t (joinPs (ns.take (i + 1))) = fz at *
              generalize fz.getD tr0 = nd at *
              generalize fz.isSome = s1 at *
              rw [hVi]
              have hVn := Tr.V_is nd
              have hrn := trRow_is nd
              refine stp0 ?_
              rw [← hVn]
              refine rValue_a (trm_ok (by omega) m2) ?_
              rw [valV_is, hVn]
              generalize valT nd [114, 97, 110, 103, 101, 115] = vz at *
              generalize hs2 : vz.isSome = s2 at *
              cases b with
              | false =>
                refine stp0 ?_
                rw [← hp_nil (H := hp G _)]
                exact hJ2 _ _ ⟨past_hp hG _, by rw [hp_next]; omega⟩ (hget0 _) (by rw [hrb]) _ fgt
              | true =>
                cases s1 with
                | false =>
                  refine stp0 ?_
                  rw [← hp_nil (H := hp G _)]
                  exact hJ2 _ _ ⟨past_hp hG _, by rw [hp_next]; omega⟩ (hget0 _) (by rw [hrb]) _ fgt
                | true =>
                  cases s2 with
                  | false =>
                    refine stp0 ?_
                    rw [← hp_nil (H := hp G _)]
                    exact hJ2 _ _ ⟨past_hp hG _, by rw [hp_next]; omega⟩ (hget0 _) (by rw [hrb]) _ fgt
                  | true =>
                    by_cases hv0 : vz.getD [] = []
                    · rw [hv0] at hrb ⊢
                      refine stp0 ?_
                      rw [← hp_nil (H := hp G _)]
                      exact hJ2 _ _ ⟨past_hp hG _, by rw [hp_next]; omega⟩ (hget0 _) (by rw [hrb]) _ fgt
                    · rw [decide_eq_false hv0] at hrb
                      refine stp hv0 ?_
                      rw [← hp_nil (H := hp G _)]
                      exact hJ2 _ _ ⟨past_hp hG _, by rw [hp_next]; omega⟩ (hget0 _) (by rw [hrb]) _ fgt
            · obtain rfl : i = ns.length := by omega
              have hall : b = true → U = (a2, 0) := fun hb => by
                rw [hb] at hbe
                have hbe := hbe.symm
                rw [Bool.and_eq_true, List.all_eq_true] at hbe
                exact hrng hbe.1 (fun j hj => hbe.2 j (List.mem_range.2 hj))
              clear hJ
              refine stp hi ?_
              cases b
              all_goals try (have q := hall rfl; subst q; exact absurd rfl u2)
              all_goals
                first
                | (have q := hall rfl; subst q; refine stp hg0' ?_)
                | (refine stp hg0' ?_)
              all_goals
                rw [← hVi]
                refine step_a (by omega) htm (by omega) ?_
                rw [hVi]
                generalize stepS t p a2 = R at *
                by_cases he : R.2 = 0
                · have us3 := us2 he
                  obtain ⟨j1, j2, j3⟩ := joins_le hpp (by omega) (ns.length - 1)
                  have hjl := joinPs_le hpp (ns.length - 1)
                  obtain ⟨k4, e2⟩ := slA_cut k2 1 (ns.map strV) (i := ns.length - 1) (by rw [List.length_map]; omega)
                  rw [← List.map_take] at e2
                  simp only [asliceSl, abound] at e2
                  have hsub : ((ns.length : Nat) : Int) - 1 = ((ns.length - 1 : Nat) : Int) := by omega
                  have hsub2 : (0 : Int) ≤ ((ns.length - 1 : Nat) : Int) := by omega
                  refine stp (And.intro he (And.intro hg0' (And.intro hsub e2))) ?_
                  refine ⟨_, rJoin_a j1 j2 ⟨rfl, rfl⟩, ?_⟩
                  refine stp hg0' ?_
                  rw [← hVi]
                  refine up_a (by omega) htm (by omega) ?_
                  rw [← us3, hVi]
                  first
                  | (refine stp (And.intro u1 u2) ?_)
                  | (refine stp u2 ?_)
                  refine awake48_a ?_
                  refine stp0 ?_
                  exact aret_past (K := fun y _ => y = .bool true) (past_hp hG []) hs (.bool _) rfl
                · have us3 := us1 he
                  first
                  | exact absurd u2 us3
                  | (refine stp (And.intro he us3) ?_
                     refine awake48_a ?_
                     refine stp0 ?_
                     exact aret_past (K := fun y _ => y = .bool true) (past_hp hG []) hs (.bool _) rfl)
    · refine stp h1 ?_
      refine awake48_a ?_
      refine stp0 ?_
      exact aret_plain (K := fun y _ => y = .bool true) hs (.bool _) rfl
end Go.Proofs.YtmdgjfadbhenjaaGreatDoor.AL

