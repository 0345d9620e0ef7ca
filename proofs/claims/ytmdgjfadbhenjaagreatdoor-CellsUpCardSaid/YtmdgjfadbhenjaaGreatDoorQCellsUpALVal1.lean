/- Texts cut at a byte, told. -/
import Derived.Test.YtmdgjfadbhenjaaGreatDoorQCellsUpALTree1
import Derived.Test.YtmdgjfadbhenjaaGreatDoorQCellsUpALA4
import Derived.Test.YtmdgjfadbhenjaaGreatDoorProg
import Derived.Shelf.Lay
import Derived.Shelf.Strings.OnBuilder
import Derived.KernelRfl
import Derived.Test.YtmdgjfadbhenjaaGreatDoorQCellsUpALDPat
import Derived.Test.YtmdgjfadbhenjaaGreatDoorQCellsUpALA3
import Derived.Shelf.Strings.Builder1
set_option linter.unusedSimpArgs false
set_option linter.unusedVariables false
set_option maxRecDepth 100000
set_option maxHeartbeats 16000000
namespace Go.Proofs.YtmdgjfadbhenjaaGreatDoor.AL
open Go Go.Proofs
attribute [local go_sem] go_seq go_skip go_region go_regionN go_fregion rgF_some go_cond go_block go_exit go_ret nxt_nil nxt_code nxt_blk nxt_cut leave_nil leave_code leave_cut leave_blk rtn_nil rtn_code rtn_blk rtn_cut cnd_t cnd_f rgn_nil rgY_some rgY_none rgH_some rgP_some retTo_is rgV_func grd_und grd_tt grd_ff grd_tf grd_ft rgn_q rgn_alloc rgn_box rgn_store rgn_lit rgn_litw rgn_litc litCells_nil litCells_cons rgn_app rgn_copy rgn_mk rgn_s2b rgn_call rgn_callv rgn_stop rgn_slice3 aslice3 rgn_slice3l aslice3l rgn_appz rgn_clear rgn_range rgn_next arange acap rgn_put rgn_mkmap rgn_lookup rgn_mapup alookup_nilm alookup_map amapup_map afound_ok afound_no rgn_c rgn_cv qclV_func aloadr rgn_guard post_ret post_normal retY_some ares aresL ares1 AX.ev aput List.getD_cons_zero List.getD_cons_succ List.set_cons_zero List.set_cons_succ List.map_cons List.map_nil aq abin aint astr abeq aconv asame aextract alenS alenL_nils alenL_emp alenL_imm alenL_wr alenL_wc aun apart aload afieldAddr afield aidxSl_wr aidxSl_wc aidxSl_imm aidxPt aidxStr aidxArr abound asliceStr asliceSl asliceArr abest anonil afill astore acells_nils acells_emp acells_imm acells_wr acells_wc acells_str acopy litAll amk as2b anil nilOf aseq aeqs aeqv fits fit1 hp_next hp_push hp_get hp_set List.length_cons List.length_nil List.getElem?_cons_zero List.getElem?_cons_succ List.cons_append List.nil_append List.append_nil List.take_succ_cons List.take_zero List.drop_succ_cons List.drop_zero List.all_cons List.all_nil Option.map_some Option.some.injEq Bool.and_true Bool.true_and Bool.false_eq_true if_true if_false ite_true ite_false Bool.and_self true_and and_true and_self Nat.zero_add Nat.le_refl Int.toNat_natCast beq_self_eq_true eq_self tops_zero tops_succ Int.natCast_nonneg List.take_nil List.drop_nil Option.map_none flat_bool one_bool cells_bool flat_int one_int cells_int flat_str one_str cells_str flat_nilp one_nilp cells_nilp flat_ptr one_ptr cells_ptr flat_nils one_nils cells_nils flat_imm one_imm cells_imm flat_wr one_wr cells_wr flat_wc one_wc cells_wc flat_func one_func cells_func flat_nilf one_nilf cells_nilf flat_map one_map cells_map flat_nilm one_nilm cells_nilm flat_iface one_iface cells_iface flat_nili one_nili cells_nili flat_rd one_rd cells_rd flat_emp one_emp cells_emp flat_byteV one_byteV cells_byteV flat_agg cells_agg one_agg B_size B_list B_ext B_toList B_app List.take_length Int.le_refl
/-- The parts of a text between bytes c. -/
def splitA (c : UInt8) : List UInt8 → List UInt8 → List (List UInt8)
  | acc, [] => [acc]
  | acc, b :: l => if b = c then acc :: splitA c [] l else splitA c (acc ++ [b]) l
theorem split_cut (c : UInt8) : ∀ (l acc : List UInt8), splitA c acc l = if (cut1 c l).2.2 = true then (acc ++ (cut1 c l).1) :: splitA c [] (cut1 c l).2.1 else [acc ++ l]
  | [], acc => by simp [splitA, cut1]
  | b :: l, acc => by
    rw [splitA, cut1]
    by_cases h : b = c
    · rw [if_pos h, if_pos h, if_pos rfl, List.append_nil]
    · rw [if_neg h, if_neg h, split_cut c l]
      simp only
      rw [List.append_assoc, List.append_assoc]
      rfl
theorem split_len (c : UInt8) : ∀ (l acc : List UInt8), (splitA c acc l).length = l.count c + 1
  | [], acc => rfl
  | b :: l, acc => by
    rw [splitA, List.count_cons]
    by_cases h : b = c
    · rw [if_pos h, List.length_cons, split_len c l, if_pos (by simpa using h)]
    · rw [if_neg h, split_len c l, if_neg (by simpa using h)]
theorem count_cut {c : UInt8} {l : List UInt8} (h : (cut1 c l).2.2 = true) : l.count c = (cut1 c l).2.1.count c + 1 := by
  have h1 := cut1_found h
  have h2 := cut1_free (c := c) (l := l)
  conv => lhs; rw [h1]
  rw [List.count_append, List.count_cons, List.count_eq_zero.2 h2]
  simp
theorem count_pos {c : UInt8} {l : List UInt8} (h : 0 < l.count c) : (cut1 c l).2.2 = true := cut1_mem.2 (List.count_pos_iff.1 h)
def rowS (ps : List (List UInt8)) (n : Nat) : List AV := ps.map strV ++ List.replicate (n - ps.length) (strV [])
theorem cut_parts {u p q : List UInt8} {c : UInt8} (h : u = p ++ c :: q) : u.take p.length = p ∧ u.drop (p.length + 1) = q ∧ p.length + 1 + q.length = u.length := by
  subst h
  refine ⟨by simp, by rw [← List.drop_drop]; simp, by simp; omega⟩
theorem rowS_0 (n : Nat) : (List.replicate n [AV.str (B [])]).flatten = rowS [] n := by
  unfold rowS
  rw [List.map_nil, List.nil_append, List.length_nil, Nat.sub_zero]
  induction n with
  | zero => rfl
  | succ n ih => rw [List.replicate_succ, List.flatten_cons, ih]; rfl
theorem rowS_len (ps : List (List UInt8)) (n : Nat) (h : ps.length ≤ n) : (rowS ps n).length = n := by
  unfold rowS
  rw [List.length_append, List.length_map, List.length_replicate]
  omega
theorem rowS_set (ps : List (List UInt8)) (w : List UInt8) (n : Nat) (h : ps.length < n) : (rowS ps n).take ps.length ++ [AV.str (B w)] ++ (rowS ps n).drop (ps.length + 1) = rowS (ps ++ [w]) n := by
  have hl : (ps.map strV).length = ps.length := List.length_map _
  unfold rowS
  rw [List.take_append_of_le_length (by omega), List.take_of_length_le (by omega), List.map_append, List.length_append, List.length_singleton]
  rw [← hl, List.drop_length_add_append]
  rw [List.drop_replicate, hl, Nat.sub_sub]
  rfl
section
variable {H : AHeap} {K : AV → AHeap → Prop}
theorem csb_a {l : List UInt8} {c : UInt8} (h : K (.int .i64 (l.count c : Int)) H) : (ACalls Tryz.prog) 229 [.str (B l), .int .u8 (c.toNat : Int)] H K :=
  acalls_extq h fun g w vs hS hR => by
    obtain ⟨u, v, rfl, h1, h2⟩ := reps_two hR
    have e1 := str_inv h1
    have e2 := int_inv h2
    subst e1
    subst e2
    refine ⟨.int .i64 (l.count c : Int), ?_, .int _ _⟩
    rw [run_callFunc_extern Tryz.func229 (by kernel_rfl) (by kernel_rfl) (by kernel_rfl) (e := Extern.BytealgCount.count) (by kernel_rfl), Lib.run_countString]
    simp [B_list, Result.andThen, Lib.countByte]
theorem cnt_a {l : List UInt8} {c : UInt8} (h : K (.int .i64 (l.count c : Int)) H) : (ACalls Tryz.prog) 203 [.str (B l), .str (B [c])] H K := by
  refine acalls_go mo t203 (fun hs hu => ?_)
  simp only [c203, go_sem, Nat.reduceLeDiff, Nat.reduceAdd, Nat.reduceSub, Nat.reduceMul, Nat.reduceLT, Int.reduceLT, Int.reduceLE, Int.reduceAdd, Int.reduceSub, Int.reduceMul, Int.reduceToNat, Int.reduceNeg, Int.reduceEq, Nat.reducePow, Int.reducePow, Nat.reduceEqDiff, decide_true, decide_false, reduceIte, reduceCtorEq, Int.reduceBEq, Int.reduceBNe, bne_self_eq_false, Int.cast_ofNat_Int, Bool.not_true, Bool.not_false, IntKind.bits]
  refine csb_a ?_
  refine stp0 ?_
  exact aret_u hs (h)
theorem hasSuf_a {l p : List UInt8} (hl : l.length < 9223372036854775808) (hp : p.length < 9223372036854775808) (h : K (.bool (decide (p.length ≤ l.length ∧ l.drop (l.length - p.length) = p))) H) : (ACalls Tryz.prog) 226 [.str (B l), .str (B p)] H K := by
  refine acalls_go mo t226 (fun hs hu => ?_)
  simp only [c226, go_sem, Nat.reduceLeDiff, Nat.reduceAdd, Nat.reduceSub, Nat.reduceMul, Nat.reduceLT, Int.reduceLT, Int.reduceLE, Int.reduceAdd, Int.reduceSub, Int.reduceMul, Int.reduceToNat, Int.reduceNeg, Int.reduceEq, Nat.reducePow, Int.reducePow, Nat.reduceEqDiff, decide_true, decide_false, reduceIte, reduceCtorEq, Int.reduceBEq, Int.reduceBNe, bne_self_eq_false, Int.cast_ofNat_Int, Bool.not_true, Bool.not_false, IntKind.bits]
  by_cases h1 : p.length ≤ l.length
  · have e : decide (p.length ≤ l.length ∧ l.drop (l.length - p.length) = p) = decide (l.drop (l.length - p.length) = p) := by simp [h1]
    rw [e] at h
    refine stp0 ?_
    exact aret_u hs (h)
  · rw [decide_eq_false (fun q => h1 q.1)] at h
    refine stp0 ?_
    exact aret_u hs (h)
theorem scutSuf_a {l p : List UInt8} (hl : l.length < 9223372036854775808) (hp : p.length < 9223372036854775808) (h : K (if p.length ≤ l.length ∧ l.drop (l.length - p.length) = p then .tup [.str (B (l.take (l.length - p.length))), .bool true] else .tup [.str (B l), .bool false]) H) : (ACalls Tryz.prog) 232 [.str (B l), .str (B p)] H K := by
  refine acalls_go mo t232 (fun hs hu => ?_)
  simp only [c232, go_sem, Nat.reduceLeDiff, Nat.reduceAdd, Nat.reduceSub, Nat.reduceMul, Nat.reduceLT, Int.reduceLT, Int.reduceLE, Int.reduceAdd, Int.reduceSub, Int.reduceMul, Int.reduceToNat, Int.reduceNeg, Int.reduceEq, Nat.reducePow, Int.reducePow, Nat.reduceEqDiff, decide_true, decide_false, reduceIte, reduceCtorEq, Int.reduceBEq, Int.reduceBNe, bne_self_eq_false, Int.cast_ofNat_Int, Bool.not_true, Bool.not_false, IntKind.bits]
  refine hasSuf_a hl hp ?_
  by_cases h1 : p.length ≤ l.length ∧ l.drop (l.length - p.length) = p
  · rw [if_pos h1] at h
    rw [decide_eq_true h1]
    have h2 := h1.1
    refine stp0 ?_
    exact aret_u hs (h)
  · rw [if_neg h1] at h
    rw [decide_eq_false h1]
    refine stp0 ?_
    exact aret_u hs (h)
theorem cutSuf_a {l p : List UInt8} (hl : l.length < 9223372036854775808) (hp : p.length < 9223372036854775808) (h : K (if p.length ≤ l.length ∧ l.drop (l.length - p.length) = p then .tup [.str (B (l.take (l.length - p.length))), .bool true] else .tup [.str (B l), .bool false]) H) : (ACalls Tryz.prog) 206 [.str (B l), .str (B p)] H K := by
  refine acalls_go mo t206 (fun hs hu => ?_)
  simp only [c206, go_sem, Nat.reduceLeDiff, Nat.reduceAdd, Nat.reduceSub, Nat.reduceMul, Nat.reduceLT, Int.reduceLT, Int.reduceLE, Int.reduceAdd, Int.reduceSub, Int.reduceMul, Int.reduceToNat, Int.reduceNeg, Int.reduceEq, Nat.reducePow, Int.reducePow, Nat.reduceEqDiff, decide_true, decide_false, reduceIte, reduceCtorEq, Int.reduceBEq, Int.reduceBNe, bne_self_eq_false, Int.cast_ofNat_Int, Bool.not_true, Bool.not_false, IntKind.bits]
  refine scutSuf_a hl hp ?_
  by_cases h1 : p.length ≤ l.length ∧ l.drop (l.length - p.length) = p
  · rw [if_pos h1] at h ⊢
    refine stp0 ?_
    exact aret_u hs (h)
  · rw [if_neg h1] at h ⊢
    refine stp0 ?_
    exact aret_u hs (h)
theorem strs_one (ps : List (List UInt8)) : ∀ x ∈ ps.map strV, x.cells.length = 1 := fun x hx => by obtain ⟨n, _, rfl⟩ := List.mem_map.1 hx; rfl
theorem genSplit_a {s : List UInt8} {c : UInt8} (hl : s.length < 1073741824) (h : ∀ k, K (slA k 1 ((splitA c [] s).map strV)) H) : (ACalls Tryz.prog) 174 [.str (B s), .str (B [c]), .int .i64 0, .int .i64 (-1)] H K := by
  refine acalls_go mo t174 (fun hs hu => ?_)
  have hcl : s.count c ≤ s.length := List.count_le_length
  simp only [c174, go_sem, Nat.reduceLeDiff, Nat.reduceAdd, Nat.reduceSub, Nat.reduceMul, Nat.reduceLT, Int.reduceLT, Int.reduceLE, Int.reduceAdd, Int.reduceSub, Int.reduceMul, Int.reduceToNat, Int.reduceNeg, Int.reduceEq, Nat.reducePow, Int.reducePow, Nat.reduceEqDiff, decide_true, decide_false, reduceIte, reduceCtorEq, Int.reduceBEq, Int.reduceBNe, bne_self_eq_false, Int.cast_ofNat_Int, Bool.not_true, Bool.not_false, IntKind.bits]
  refine stp0 ?_
  refine cnt_a ?_
  have e1 : ((List.count c s : Nat) : Int) + 1 = ((s.count c + 1 : Nat) : Int) := by omega
  have e2 : ¬ ((s.length + 1 : Nat) : Int) < ((s.count c + 1 : Nat) : Int) := by omega
  generalize hn : s.count c = n at *
  refine stp (And.intro e1 e2) ?_
  refine go_loopS mono (σ := List (List UInt8) × List UInt8) (fun z => [(0, .str (B z.2)), (10, .int .i64 (z.1.length : Int))]) (fun z => hp H [.row 9 0 (rowS z.1 (n + 1))]) (fun z => z.1 ++ splitA c [] z.2 = splitA c [] s ∧ z.1.length + z.2.count c = n ∧ z.2.length ≤ s.length) (fun z => z.2.length) ([], s) ?_ (by rw [rowS_0]) ⟨rfl, by rw [List.length_nil, Nat.zero_add]; exact hn, Nat.le_refl _⟩ (fun z hz J hJ => ?_)
  · exact fgt
  obtain ⟨ps, u⟩ := z
  obtain ⟨z1, z2, z3⟩ := hz
  simp only at z1 z2 z3
  have hrl := rowS_len ps (n + 1) (by omega)
  simp only [blurR_nil, blurR_some, blurR_none, blurC_region, blurC_regionN, blurC_fregion, blurT_nil, blurT_cons, blurC_seq, blurC_both, blurC_cond, blurC_block, blurC_loop, blurC_skip, blurC_exit, blurC_ret, tellS_nil, tellS_cons, List.set_cons_zero, List.set_cons_succ, tops_zero, tops_succ]
  by_cases d1 : ps.length < n
  · have hf := count_pos (c := c) (l := u) (by omega)
    have hcu := count_cut hf
    have hib := indexByte_cut (c := c) u
    have hfd := cut1_found hf
    have hsp := split_cut c u []
    rw [if_pos hf] at hib hsp
    have hle := cut1_le (c := c) (l := u)
    have hset := rowS_set ps (cut1 c u).1 (n + 1) (by omega)
    refine stp0 ?_
    refine index_a ?_
    rw [hib]
    obtain ⟨htk, hdr, hul⟩ := cut_parts hfd
    have hlt : (cut1 c u).1.length < u.length := by omega
    have hJ2 := fun a' => hJ (ps ++ [(cut1 c u).1], (cut1 c u).2.1) a' ⟨by
      rw [List.append_assoc, ← z1, hsp, List.nil_append]
      rfl, by show (ps ++ [(cut1 c u).1]).length + (cut1 c u).2.1.count c = n; rw [List.length_append, List.length_singleton]; omega, by show (cut1 c u).2.1.length ≤ s.length; omega⟩ (by show (cut1 c u).2.1.length < u.length; omega)
    clear hJ
    generalize (cut1 c u).1 = p at *
    generalize (cut1 c u).2.1 = q at *
    have e3 : p.length + 0 = p.length := Nat.add_zero _
    refine stp (And.intro htk (And.intro hdr (And.intro hrl (And.intro e3 hset)))) ?_
    rw [show ps.length + 1 = (ps ++ [p]).length by simp]
    exact hJ2 _ fgt
  · have hcz : u.count c = 0 := by omega
    have hpl : ps.length = n := by omega
    have hf : ¬ (cut1 c u).2.2 = true := fun q => by have := count_cut q; omega
    have hsp := split_cut c u []
    rw [if_neg hf, List.nil_append] at hsp
    rw [hsp] at z1
    have hset := rowS_set ps u (n + 1) (by omega)
    have hfull : rowS (ps ++ [u]) (n + 1) = (ps ++ [u]).map strV := by
      unfold rowS
      rw [List.length_append, List.length_singleton, hpl, Nat.sub_self]
      simp
    rw [hfull, hpl] at hset
    rw [← z1] at h
    have hx := h 2
    rw [show slA 2 1 ((ps ++ [u]).map strV) = .imm 1 ((ps ++ [u]).map strV) by cases ps <;> rfl] at hx
    refine stp (And.intro hpl (And.intro hrl hset)) ?_
    exact aret_wr (i := 0) (e := 9) (cs := (ps ++ [u]).map strV) ((ps ++ [u]).map strV) rfl (strs_one _) (by simp [hpl]) (by rw [map_one strV (fun _ => rfl)]) hs (by rw [u_imm, uc_strs]; trivial) hx
theorem split_a {s : List UInt8} {c : UInt8} (hl : s.length < 1073741824) (h : ∀ k, K (slA k 1 ((splitA c [] s).map strV)) H) : (ACalls Tryz.prog) 133 [.str (B s), .str (B [c])] H K := by
  refine acalls_go mo t133 (fun hs hu => ?_)
  simp only [c133, go_sem, Nat.reduceLeDiff, Nat.reduceAdd, Nat.reduceSub, Nat.reduceMul, Nat.reduceLT, Int.reduceLT, Int.reduceLE, Int.reduceAdd, Int.reduceSub, Int.reduceMul, Int.reduceToNat, Int.reduceNeg, Int.reduceEq, Nat.reducePow, Int.reducePow, Nat.reduceEqDiff, decide_true, decide_false, reduceIte, reduceCtorEq, Int.reduceBEq, Int.reduceBNe, bne_self_eq_false, Int.cast_ofNat_Int, Bool.not_true, Bool.not_false, IntKind.bits]
  refine genSplit_a hl (fun k => ?_)
  refine stp0 ?_
  exact aret_plain hs (by rw [u_slA, uc_strs]; trivial) (h k)
end
end Go.Proofs.YtmdgjfadbhenjaaGreatDoor.AL
/- The kit's own contracts as told calls. -/
namespace Go.Proofs.YtmdgjfadbhenjaaGreatDoor.AL
open Go Go.RowKit
theorem acalls_calls {P : Program} {f n : Nat} {ac : ACode} {rs : List RV} (hT : Told P f n ac rs) {args : List AV} {H : AHeap} {K : AV → AHeap → Prop}
    (h : ∀ g w vs, Sim g w H → Reps g w vs args → Calls P f vs w (fun e w' => ∃ v y H' g', e = .returned v ∧ K y H' ∧ Ext g w g' w' ∧ Sim g' w' H' ∧ Rep g' w' v y)) : ACalls P f args H K := by
  obtain ⟨fn, c, W, hf, hb, hname, _⟩ := hT.tell
  intro g w vs hS hR o act next Qc hn
  have hrun : (callFunc f vs).run P w = .ok (.enter f vs) w := by
    simp only [callFunc, Sem.run_bind, run_program, Result.andThen_ok, hf, hname, hb, Option.isNone_some, Bool.false_eq_true, if_false, Sem.run_pure]
  rw [hrun, Oper.upon_enter]
  refine (h g w vs hS hR).mono (fun e w' he => ?_)
  obtain ⟨v, y, H', g', rfl, hk, hE, hS', hr⟩ := he
  exact hn y H' g' w' v hk hE hS' hr
theorem sim_below {g : Ghost} {w w' : World} {H : AHeap} (hS : Sim g w H) (hb : Below w.heap.size w w') : Ext g w g w' ∧ Sim g w' H := by
  obtain ⟨h1, h2, h3, h4, h5⟩ := hb
  have hE : Ext g w g w' := ⟨fun _ _ _ h => h, fun _ h => h, fun b hb => h5 b (hS.zlt b hb), fun b s h => by
    have hl : b < w.heap.size := by
      rcases Nat.lt_or_ge b w.heap.size with q | q
      · exact q
      · unfold World.shape? at h
        rw [Array.getElem?_eq_none q] at h
        cases h
    unfold World.shape? at h ⊢
    rw [h5 b hl]
    exact h, h4, h1, h2, h3, fun _ _ h => h, fun b hb _ => h5 b hb⟩
  exact ⟨hE, ⟨fun b hb => Nat.lt_of_lt_of_le (hS.zlt b hb) h4, fun i k b hb => ⟨(hS.mlt i k b hb).1, Nat.lt_of_lt_of_le (hS.mlt i k b hb).2 h4⟩, fun i o ho => (hS.live i o ho).ext hE (fun b hb => h5 b (hS.mlt _ _ _ hb).2), hS.inj, hS.nz, hS.gen, hS.var.ext hE⟩⟩
end Go.Proofs.YtmdgjfadbhenjaaGreatDoor.AL
/- The kit's Join, laid at this program. -/
set_option linter.unusedVariables false
set_option maxRecDepth 100000
namespace Go.Proofs
open Go.Shelf
shelf_lay Lays.n156 Nm 156 at Tryz as Tryz.lays156
theorem Tryz.Builder_Extra_156 : Builder.Extra Tryz.prog Tryz.lays156_ren where
  sizeBuilder := by kernel_rfl
  liesBuilder := by kernel_rfl
  t5 := Tryz.underlying5
  a5 := Tryz.isAgg5
  z5 := Tryz.sizeOf5
  v5 := Tryz.zeroValue5
  infoByte := by kernel_rfl
  cellsByte := by kernel_rfl
  sizeByte := by kernel_rfl
  neB5 := by decide
namespace YtmdgjfadbhenjaaGreatDoor.AL
open Go Go.RowKit
theorem join_a {n : Nat} {ac : ACode} {rs : List RV} (hT : Told Tryz.prog 135 n ac rs) {ls : List (List UInt8)} {sep : List UInt8} {H : AHeap} {K : AV → AHeap → Prop} (hne : ls ≠ []) (hN : ls.length ≤ 140737488355328) (hl : (Lib.join ls sep).length ≤ 140737488355328) (h : K (.str (B (Lib.join ls sep))) H) : (ACalls Tryz.prog) 135 [.imm 1 (ls.map fun s => .str (B s)), .str (B sep)] H K :=
  acalls_calls hT fun g w vs hS hR => by
    obtain ⟨u, v, rfl, h1, h2⟩ := reps_two hR
    have e2 := str_inv h2
    subst e2
    obtain ⟨b, o, c, cu, rfl, hc, _, hz, _, hcell, hrep⟩ := h1.imm_inv
    have hmap : ((ls.map B).map (·.data.toList)) = ls := by
      rw [List.map_map]
      exact (List.map_congr_left (fun x _ => by simp [B])).trans (List.map_id _)
    have := Any.strings_Join Tryz.lays156 Tryz.Builder_Extra_156 b o c (ls.map B) (B sep) w (fun j x hx => by
      rw [List.getElem?_map] at hx
      obtain ⟨s, hs, rfl⟩ := Option.map_eq_some_iff.1 hx
      have hj : j < ls.length := (List.getElem?_eq_some_iff.1 hs).1
      rw [hcell j (by rw [List.length_map]; omega)]
      have := hrep j (.str (B s)) 0 (.str (B s)) (by rw [List.getElem?_map, hs]; rfl) rfl
      rw [Nat.mul_one, Nat.add_zero] at this
      rw [str_inv this]) (hS.zlt _ hz) (by rw [List.length_map]; exact hN) (by rw [List.length_map] at hc ⊢; exact hc) (by rw [hmap]; simpa [B] using hl)
    rw [List.length_map] at this ⊢
    refine this.mono (fun e w' he => ?_)
    obtain ⟨rfl, hb⟩ := he
    obtain ⟨hE, hS'⟩ := sim_below hS hb
    refine ⟨_, _, H, g, rfl, h, hE, hS', ?_⟩
    rw [hmap]
    have : (B sep).data.toList = sep := by simp [B]
    rw [this]
    exact .str _
end YtmdgjfadbhenjaaGreatDoor.AL
end Go.Proofs

/- Paths told: the program's names of a path, and what is looked for among kids and properties. -/
set_option linter.unusedSimpArgs false
set_option linter.unusedVariables false
set_option maxRecDepth 100000
set_option maxHeartbeats 16000000
namespace Go.Proofs.YtmdgjfadbhenjaaGreatDoor.AL
open Go Go.Proofs
attribute [local go_sem] go_seq go_skip go_region go_regionN go_fregion rgF_some go_cond go_block go_exit go_ret nxt_nil nxt_code nxt_blk nxt_cut leave_nil leave_code leave_cut leave_blk rtn_nil rtn_code rtn_blk rtn_cut cnd_t cnd_f rgn_nil rgY_some rgY_none rgH_some rgP_some retTo_is rgV_func grd_und grd_tt grd_ff grd_tf grd_ft rgn_q rgn_alloc rgn_box rgn_store rgn_lit rgn_litw rgn_litc litCells_nil litCells_cons rgn_app rgn_copy rgn_mk rgn_s2b rgn_call rgn_callv rgn_stop rgn_slice3 aslice3 rgn_slice3l aslice3l rgn_appz rgn_clear rgn_range rgn_next arange acap rgn_put rgn_mkmap rgn_lookup rgn_mapup alookup_nilm alookup_map amapup_map afound_ok afound_no rgn_c rgn_cv qclV_func aloadr rgn_guard post_ret post_normal retY_some ares aresL ares1 AX.ev aput List.getD_cons_zero List.getD_cons_succ List.set_cons_zero List.set_cons_succ List.map_cons List.map_nil aq abin aint astr abeq aconv asame aextract alenS alenL_nils alenL_emp alenL_imm alenL_wr alenL_wc aun apart aload afieldAddr afield aidxSl_wr aidxSl_wc aidxSl_imm aidxPt aidxStr aidxArr abound asliceStr asliceSl asliceArr abest anonil afill astore acells_nils acells_emp acells_imm acells_wr acells_wc acells_str acopy litAll amk as2b anil nilOf aseq aeqs aeqv fits fit1 hp_next hp_push hp_get hp_set List.length_cons List.length_nil List.getElem?_cons_zero List.getElem?_cons_succ List.cons_append List.nil_append List.append_nil List.take_succ_cons List.take_zero List.drop_succ_cons List.drop_zero List.all_cons List.all_nil Option.map_some Option.some.injEq Bool.and_true Bool.true_and Bool.false_eq_true if_true if_false ite_true ite_false Bool.and_self true_and and_true and_self Nat.zero_add Nat.le_refl Int.toNat_natCast beq_self_eq_true eq_self tops_zero tops_succ Int.natCast_nonneg List.take_nil List.drop_nil Option.map_none flat_bool one_bool cells_bool flat_int one_int cells_int flat_str one_str cells_str flat_nilp one_nilp cells_nilp flat_ptr one_ptr cells_ptr flat_nils one_nils cells_nils flat_imm one_imm cells_imm flat_wr one_wr cells_wr flat_wc one_wc cells_wc flat_func one_func cells_func flat_nilf one_nilf cells_nilf flat_map one_map cells_map flat_nilm one_nilm cells_nilm flat_iface one_iface cells_iface flat_nili one_nili cells_nili flat_rd one_rd cells_rd flat_emp one_emp cells_emp flat_byteV one_byteV cells_byteV flat_agg cells_agg one_agg B_size B_list B_ext B_toList B_app List.take_length Int.le_refl
def ixOf {α : Type} (p : α → Bool) : List α → Nat → Int
  | [], _ => -1
  | x :: xs, i => if p x = true then (i : Int) else ixOf p xs (i + 1)
theorem ixOf_any {α : Type} (p : α → Bool) : ∀ (xs : List α) (i : Nat), decide (0 ≤ ixOf p xs i) = xs.any p
  | [], i => rfl
  | x :: xs, i => by
    unfold ixOf
    split
    · rename_i h
      rw [List.any_cons, h, decide_eq_true (by omega)]
      rfl
    · rename_i h
      rw [Bool.not_eq_true] at h
      rw [List.any_cons, h, Bool.false_or, ixOf_any p xs (i + 1)]
theorem ixOf_drop {α : Type} (p : α → Bool) (xs : List α) (i : Nat) (d : α) (h : i < xs.length) : ixOf p (xs.drop i) i = if p (xs.getD i d) = true then (i : Int) else ixOf p (xs.drop (i + 1)) (i + 1) := by
  rw [List.drop_eq_getElem_cons h, ixOf]
  rw [List.getD_eq_getElem?_getD, List.getElem?_eq_getElem h]
  rfl
theorem ixOf_find {α : Type} (p : α → Bool) (d : α) : ∀ (xs : List α) (i : Nat), (xs.find? p = none ∧ ixOf p xs i = -1) ∨ ∃ j, ixOf p xs i = ((i + j : Nat) : Int) ∧ j < xs.length ∧ xs.find? p = some (xs.getD j d)
  | [], i => .inl ⟨rfl, rfl⟩
  | x :: xs, i => by
    rw [ixOf]
    by_cases h : p x = true
    · rw [if_pos h, List.find?_cons_of_pos h]
      exact .inr ⟨0, rfl, by simp, rfl⟩
    · rw [if_neg h, List.find?_cons_of_neg h]
      rcases ixOf_find p d xs (i + 1) with ⟨h1, h2⟩ | ⟨j, h1, h2, h3⟩
      · exact .inl ⟨h1, h2⟩
      · exact .inr ⟨j + 1, by rw [h1]; omega, by rw [List.length_cons]; omega, by rw [h3]; rfl⟩
theorem scan_split : ∀ (rest cur : List UInt8) (out : List (List UInt8)), out.length ≤ 7 → scanP cur out rest = if (splitA 47 cur rest).contains [] = false ∧ out.length + (splitA 47 cur rest).length ≤ 7 then some (out ++ splitA 47 cur rest) else none
  | [], cur, out, ho => by
    rw [scanP, splitA]
    by_cases h : cur = [] ∨ out.length = 7
    · rw [if_pos h, if_neg]
      rintro ⟨h1, h2⟩
      rcases h with rfl | h
      · simp at h1
      · rw [List.length_singleton] at h2
        omega
    · rw [if_neg h, if_pos]
      rw [not_or] at h
      refine ⟨?_, by rw [List.length_singleton]; omega⟩
      rw [List.contains_cons, List.contains_nil, Bool.or_false]
      simpa using fun e => h.1 e
  | c :: rest, cur, out, ho => by
    rw [scanP, splitA]
    by_cases hc : c = 47
    · rw [if_pos hc, if_pos hc]
      by_cases h : cur = [] ∨ out.length = 7
      · rw [if_pos h, if_neg]
        rintro ⟨h1, h2⟩
        rcases h with rfl | h
        · simp at h1
        · rw [List.length_cons] at h2
          omega
      · rw [if_neg h, scan_split rest [] (out ++ [cur]) (by rw [List.length_append, List.length_singleton]; rw [not_or] at h; omega)]
        rw [not_or] at h
        have e : (cur :: splitA 47 [] rest).contains [] = (splitA 47 [] rest).contains [] := by
          rw [List.contains_cons]
          have : (([] : List UInt8) == cur) = false := by simpa using fun e => h.1 e
          rw [this, Bool.false_or]
        rw [e]
        have e2 : (out ++ [cur]).length + (splitA 47 [] rest).length = out.length + (cur :: splitA 47 [] rest).length := by
          simp only [List.length_append, List.length_cons, List.length_nil]
          omega
        rw [e2, List.append_assoc]
        rfl
    · rw [if_neg hc, if_neg hc]
      exact scan_split rest _ out ho
section
variable {H : AHeap} {K : AV → AHeap → Prop}
theorem hasPre_a {l p : List UInt8} (hl : l.length < 9223372036854775808) (hp : p.length < 9223372036854775808) (h : K (.bool (decide (l.take p.length = p))) H) : (ACalls Tryz.prog) 201 [.str (B l), .str (B p)] H K := by
  refine acalls_go mo t201 (fun hs hu => ?_)
  simp only [c201, go_sem, Nat.reduceLeDiff, Nat.reduceAdd, Nat.reduceSub, Nat.reduceMul, Nat.reduceLT, Int.reduceLT, Int.reduceLE, Int.reduceAdd, Int.reduceSub, Int.reduceMul, Int.reduceToNat, Int.reduceNeg, Int.reduceEq, Nat.reducePow, Int.reducePow, Nat.reduceEqDiff, decide_true, decide_false, reduceIte, reduceCtorEq, Int.reduceBEq, Int.reduceBNe, bne_self_eq_false, Int.cast_ofNat_Int, Bool.not_true, Bool.not_false, IntKind.bits]
  by_cases h1 : p.length ≤ l.length
  · refine stp0 ?_
    exact aret_u hs (h)
  · have e : ¬ l.take p.length = p := fun e => h1 (by rw [← e, List.length_take]; exact Nat.min_le_right _ _)
    rw [decide_eq_false e] at h
    refine stp0 ?_
    exact aret_u hs (h)
theorem scutPre_a {l p : List UInt8} (hl : l.length < 9223372036854775808) (hp : p.length < 9223372036854775808) (h : K (if l.take p.length = p then .tup [.str (B (l.drop p.length)), .bool true] else .tup [.str (B l), .bool false]) H) : (ACalls Tryz.prog) 173 [.str (B l), .str (B p)] H K := by
  refine acalls_go mo t173 (fun hs hu => ?_)
  simp only [c173, go_sem, Nat.reduceLeDiff, Nat.reduceAdd, Nat.reduceSub, Nat.reduceMul, Nat.reduceLT, Int.reduceLT, Int.reduceLE, Int.reduceAdd, Int.reduceSub, Int.reduceMul, Int.reduceToNat, Int.reduceNeg, Int.reduceEq, Nat.reducePow, Int.reducePow, Nat.reduceEqDiff, decide_true, decide_false, reduceIte, reduceCtorEq, Int.reduceBEq, Int.reduceBNe, bne_self_eq_false, Int.cast_ofNat_Int, Bool.not_true, Bool.not_false, IntKind.bits]
  refine hasPre_a hl hp ?_
  by_cases h1 : l.take p.length = p
  · have h2 : p.length ≤ l.length := by
      have := congrArg List.length h1
      rw [List.length_take] at this
      omega
    rw [if_pos h1] at h
    rw [decide_eq_true h1]
    refine stp0 ?_
    exact aret_u hs (h)
  · rw [if_neg h1] at h
    rw [decide_eq_false h1]
    refine stp0 ?_
    exact aret_u hs (h)
theorem cutPre_a {l p : List UInt8} (hl : l.length < 9223372036854775808) (hp : p.length < 9223372036854775808) (h : K (if l.take p.length = p then .tup [.str (B (l.drop p.length)), .bool true] else .tup [.str (B l), .bool false]) H) : (ACalls Tryz.prog) 132 [.str (B l), .str (B p)] H K := by
  refine acalls_go mo t132 (fun hs hu => ?_)
  simp only [c132, go_sem, Nat.reduceLeDiff, Nat.reduceAdd, Nat.reduceSub, Nat.reduceMul, Nat.reduceLT, Int.reduceLT, Int.reduceLE, Int.reduceAdd, Int.reduceSub, Int.reduceMul, Int.reduceToNat, Int.reduceNeg, Int.reduceEq, Nat.reducePow, Int.reducePow, Nat.reduceEqDiff, decide_true, decide_false, reduceIte, reduceCtorEq, Int.reduceBEq, Int.reduceBNe, bne_self_eq_false, Int.cast_ofNat_Int, Bool.not_true, Bool.not_false, IntKind.bits]
  refine scutPre_a hl hp ?_
  by_cases h1 : l.take p.length = p
  · rw [if_pos h1] at h ⊢
    refine stp0 ?_
    exact aret_u hs (h)
  · rw [if_neg h1] at h ⊢
    refine stp0 ?_
    exact aret_u hs (h)
theorem indexS_s {k : Nat} {ls : List (List UInt8)} {x : List UInt8} (hn : ls.length ≤ 9223372036854775807) (h : K (.int .i64 (ixOf (fun y => decide (x = y)) ls 0)) H) : (ACalls Tryz.prog) 175 [slA k 1 (ls.map strV), .str (B x)] H K := by
  refine acalls_go mo t175 (fun hs hu => ?_)
  simp only [c175, go_sem, Nat.reduceLeDiff, Nat.reduceAdd, Nat.reduceSub, Nat.reduceMul, Nat.reduceLT, Int.reduceLT, Int.reduceLE, Int.reduceAdd, Int.reduceSub, Int.reduceMul, Int.reduceToNat, Int.reduceNeg, Int.reduceEq, Nat.reducePow, Int.reducePow, Nat.reduceEqDiff, decide_true, decide_false, reduceIte, reduceCtorEq, Int.reduceBEq, Int.reduceBNe, bne_self_eq_false, Int.cast_ofNat_Int, Bool.not_true, Bool.not_false, IntKind.bits]
  refine stp0 ?_
  refine go_loopS mono (σ := Nat) (fun i => [(8, .int .i64 (i : Int))]) (fun i => hp H []) (fun i => i ≤ ls.length ∧ ixOf (fun y => decide (x = y)) (ls.drop i) i = ixOf (fun y => decide (x = y)) ls 0) (fun i => ls.length - i) 0 ?_ rfl ⟨Nat.zero_le _, rfl⟩ (fun i hi J hJ => ?_)
  · exact fgt
  obtain ⟨hil, hid⟩ := hi
  simp only [blurR_nil, blurR_some, blurR_none, blurC_region, blurC_regionN, blurC_fregion, blurT_nil, blurT_cons, blurC_seq, blurC_both, blurC_cond, blurC_block, blurC_loop, blurC_skip, blurC_exit, blurC_ret, tellS_nil, tellS_cons, List.set_cons_zero, List.set_cons_succ, tops_zero, tops_succ]
  by_cases h1 : i < ls.length
  · have ha := strs_at h1
    rw [ixOf_drop _ ls i [] h1] at hid
    generalize ls.getD i [] = y at *
    by_cases h2 : x = y
    · rw [if_pos (decide_eq_true h2)] at hid
      rw [← hid] at h
      refine stp (And.intro ha h2) ?_
      exact aret_u hs (h)
    · rw [if_neg (by rw [decide_eq_false h2]; exact Bool.false_ne_true)] at hid
      refine stp (And.intro ha h2) ?_
      exact hJ (i + 1) _ ⟨h1, hid⟩ (by omega) fgt
  · rw [List.drop_of_length_le (by omega)] at hid
    rw [← hid] at h
    refine stp0 ?_
    exact aret_u hs (h)
theorem any_contains (x : List UInt8) (ls : List (List UInt8)) : ls.any (fun y => decide (x = y)) = ls.contains x := by
  rw [Bool.eq_iff_iff]
  simp
theorem containsS_a {k : Nat} {ls : List (List UInt8)} {x : List UInt8} (hn : ls.length ≤ 9223372036854775807) (h : K (.bool (ls.contains x)) H) : (ACalls Tryz.prog) 134 [slA k 1 (ls.map strV), .str (B x)] H K := by
  refine acalls_go mo t134 (fun hs hu => ?_)
  simp only [c134, go_sem, Nat.reduceLeDiff, Nat.reduceAdd, Nat.reduceSub, Nat.reduceMul, Nat.reduceLT, Int.reduceLT, Int.reduceLE, Int.reduceAdd, Int.reduceSub, Int.reduceMul, Int.reduceToNat, Int.reduceNeg, Int.reduceEq, Nat.reducePow, Int.reducePow, Nat.reduceEqDiff, decide_true, decide_false, reduceIte, reduceCtorEq, Int.reduceBEq, Int.reduceBNe, bne_self_eq_false, Int.cast_ofNat_Int, Bool.not_true, Bool.not_false, IntKind.bits]
  refine indexS_s hn ?_
  rw [← any_contains, ← ixOf_any _ ls 0] at h
  refine stp0 ?_
  exact aret_u hs (h)
def partsV (k : Nat) : Option (List (List UInt8)) → AV
  | some ns => .tup [slA k 1 (ns.map strV), .bool true]
  | none => .tup [.nils, .bool false]
theorem partsV_s (k : Nat) (ns : List (List UInt8)) : partsV k (some ns) = .tup [slA k 1 (ns.map strV), .bool true] := rfl
theorem partsV_n (k : Nat) : partsV k none = .tup [.nils, .bool false] := rfl
theorem take_one {p : List UInt8} : (p.take ([47] : List UInt8).length = [47]) ↔ p.getD 0 0 = 47 ∧ p ≠ [] := by
  cases p with
  | nil => simp
  | cons c r => simp
theorem Parts_a {p : List UInt8} (hl : p.length < 1073741824) (h : ∀ k, K (partsV k (partsP p)) H) : (ACalls Tryz.prog) 82 [.str (B p)] H K := by
  refine acalls_go mo t82 (fun hs hu => ?_)
  unfold partsP at h
  simp only [c82, go_sem, Nat.reduceLeDiff, Nat.reduceAdd, Nat.reduceSub, Nat.reduceMul, Nat.reduceLT, Int.reduceLT, Int.reduceLE, Int.reduceAdd, Int.reduceSub, Int.reduceMul, Int.reduceToNat, Int.reduceNeg, Int.reduceEq, Nat.reducePow, Int.reducePow, Nat.reduceEqDiff, decide_true, decide_false, reduceIte, reduceCtorEq, Int.reduceBEq, Int.reduceBNe, bne_self_eq_false, Int.cast_ofNat_Int, Bool.not_true, Bool.not_false, IntKind.bits]
  by_cases h1 : p = [47]
  · rw [if_pos h1] at h
    have hx := h 0
    rw [partsV_s] at hx
    have hx : K (.tup [.nils, .bool true]) H := hx
    refine stp h1 ?_
    exact aret_u hs (hx)
  rw [if_neg h1] at h
  refine stp h1 ?_
  refine cutPre_a (by omega) (by decide) ?_
  have hno := h 0
  by_cases h2 : p.getD 0 0 = 47
  · have h3 : p.take ([47] : List UInt8).length = [47] := take_one.2 ⟨h2, fun e => by rw [e] at h2; revert h2; decide⟩
    rw [if_pos h2, scan_split _ _ _ (by simp), List.nil_append, List.length_nil, Nat.zero_add] at h hno
    rw [if_pos h3, show ([47] : List UInt8).length = 1 from rfl]
    have hcnt := split_len 47 (p.drop 1) []
    have hcl := List.count_le_length (a := (47 : UInt8)) (l := p.drop 1)
    rw [List.length_drop] at hcl
    refine stp0 ?_
    refine split_a (by rw [List.length_drop]; omega) (fun k => ?_)
    by_cases h4 : (splitA 47 [] (p.drop 1)).length ≤ 7
    · refine stp0 ?_
      refine containsS_a (by omega) ?_
      cases h5 : (splitA 47 [] (p.drop 1)).contains [] with
      | true =>
        rw [h5, if_neg (by rintro ⟨q, _⟩; cases q), partsV_n] at hno
        refine stp0 ?_
        exact aret_u hs (hno)
      | false =>
        have hx := h k
        rw [h5, if_pos ⟨rfl, h4⟩, partsV_s] at hx
        refine stp0 ?_
        exact aret_plain hs (by simp only [u_tup, u_cons, u_nil, u_bool, u_slA, and_true]; rw [uc_strs]; trivial) hx
    · rw [if_neg (fun q => h4 q.2), partsV_n] at hno
      refine stp0 ?_
      exact aret_u hs (hno)
  · have h3 : ¬ p.take ([47] : List UInt8).length = [47] := fun q => h2 (take_one.1 q).1
    rw [if_neg h2, partsV_n] at hno
    rw [if_neg h3]
    refine stp0 ?_
    refine split_a (by omega) (fun k => ?_)
    refine stp0 ?_
    exact aret_u hs (hno)
end
def c122 : ACode := 
    (.seq 
    (.region [⟨(some 2), (.q (.move (.const (.int .i64 0)))), none⟩, ⟨(some 3), (.q (.move (.const (.bool false)))), none⟩]) 
    (.seq 
    (.seq 
    (.region [⟨(some 4), (.q (.move (.tmp 0))), none⟩, ⟨(some 5), (.q (.len true (.tmp 4))), none⟩, ⟨(some 6), (.q (.bin .neq (.tmp 5) (.const (.int .i64 4)))), none⟩]) 
    (.cond (.tmp 6) 
    (.seq 
    (.region [⟨(some 2), (.q (.move (.const (.int .i64 0)))), none⟩, ⟨(some 3), (.q (.move (.const (.bool false)))), none⟩]) .ret) .skip)) 
    (.seq 
    (.region [⟨(some 7), (.q (.move (.tmp 0))), none⟩, ⟨(some 8), (.s (.call 169 [(.tmp 7)])), none⟩, ⟨(some 9), (.q (.extract 0 (.tmp 8))), none⟩, ⟨(some 10), (.q (.extract 1 (.tmp 8))), none⟩, ⟨(some 2), (.q (.move (.tmp 9))), none⟩, ⟨(some 3), (.q (.move (.tmp 10))), none⟩]) .ret)))
theorem t122 : Told Tryz.prog 122 11 c122 [(.tmp 2), (.tmp 3)] := ⟨Tryz.f122, _, [], Tryz.func122, rfl, by kernel_rfl, rfl, by kernel_rfl, by kernel_rfl⟩
def c179 : ACode := 
    (.seq 
    (.region [⟨(some 2), (.q (.move (.const .nils))), none⟩, ⟨(some 3), (.q (.move (.const (.bool false)))), none⟩]) 
    (.seq 
    (.region [⟨(some 7), (.q (.move (.tmp 0))), none⟩, ⟨(some 8), (.s (.call 206 [(.tmp 7), (.const (.str (B [0])))])), none⟩, ⟨(some 6), (.q (.move (.tmp 8))), none⟩, ⟨(some 9), (.q (.extract 0 (.tmp 6))), none⟩, ⟨(some 10), (.q (.extract 1 (.tmp 6))), none⟩, ⟨(some 4), (.q (.move (.tmp 9))), none⟩, ⟨(some 5), (.q (.move (.tmp 10))), none⟩]) 
    (.seq 
    (.seq 
    (.region [⟨(some 11), (.q (.move (.tmp 5))), none⟩, ⟨(some 12), (.q (.un .not (.tmp 11))), none⟩]) 
    (.cond (.tmp 12) 
    (.seq 
    (.region [⟨(some 2), (.q (.move (.const .nils))), none⟩, ⟨(some 3), (.q (.move (.const (.bool false)))), none⟩]) .ret) .skip)) 
    (.seq 
    (.region [⟨(some 13), (.q (.move (.tmp 4))), none⟩, ⟨(some 14), (.s (.call 133 [(.tmp 13), (.const (.str (B [0])))])), none⟩, ⟨(some 2), (.q (.move (.tmp 14))), none⟩, ⟨(some 3), (.q (.move (.const (.bool true)))), none⟩]) .ret))))
theorem t179 : Told Tryz.prog 179 15 c179 [(.tmp 2), (.tmp 3)] := ⟨Tryz.f179, _, [], Tryz.func179, rfl, by kernel_rfl, rfl, by kernel_rfl, by kernel_rfl⟩
def c136 : ACode := 
    (.seq 
    (.region [⟨(some 2), (.q (.move (.const (.str (B []))))), none⟩, ⟨(some 3), (.q (.move (.const (.bool false)))), none⟩]) 
    (.seq 
    (.region [⟨(some 7), (.q (.move (.tmp 0))), none⟩, ⟨(some 8), (.s (.call 179 [(.tmp 7)])), none⟩, ⟨(some 6), (.q (.move (.tmp 8))), none⟩, ⟨(some 9), (.q (.extract 0 (.tmp 6))), none⟩, ⟨(some 10), (.q (.extract 1 (.tmp 6))), none⟩, ⟨(some 4), (.q (.move (.tmp 9))), none⟩, ⟨(some 5), (.q (.move (.tmp 10))), none⟩]) 
    (.seq 
    (.seq 
    (.region [⟨(some 11), (.q (.move (.tmp 5))), none⟩, ⟨(some 12), (.q (.un .not (.tmp 11))), none⟩, ⟨(some 13), (.q (.move (.tmp 12))), none⟩, ⟨(some 14), (.q (.move (.tmp 4))), (some (13, false))⟩, ⟨(some 15), (.q (.len false (.tmp 14))), (some (13, false))⟩, ⟨(some 16), (.q (.bin .neq (.tmp 15) (.const (.int .i64 1)))), (some (13, false))⟩, ⟨(some 17), (.q (.pick (.tmp 13) (.const (.bool true)) (.tmp 16))), none⟩]) 
    (.cond (.tmp 17) 
    (.seq 
    (.region [⟨(some 2), (.q (.move (.const (.str (B []))))), none⟩, ⟨(some 3), (.q (.move (.const (.bool false)))), none⟩]) .ret) .skip)) 
    (.seq 
    (.region [⟨(some 18), (.q (.move (.tmp 4))), none⟩, ⟨(some 19), (.q (.idxSl 1 (.tmp 18) (.const (.int .i64 0)))), none⟩, ⟨(some 20), (.q (.load false 1 (.tmp 19))), none⟩, ⟨(some 2), (.q (.move (.tmp 20))), none⟩, ⟨(some 3), (.q (.move (.const (.bool true)))), none⟩]) .ret))))
theorem t136 : Told Tryz.prog 136 21 c136 [(.tmp 2), (.tmp 3)] := ⟨Tryz.f136, _, [], Tryz.func136, rfl, by kernel_rfl, rfl, by kernel_rfl, by kernel_rfl⟩
def c169 : ACode := 
    (.seq 
    (.region [⟨(some 2), (.q (.move (.const (.int .i64 0)))), none⟩, ⟨(some 3), (.q (.move (.const (.bool false)))), none⟩]) 
    (.seq 
    (.seq 
    (.region [⟨(some 7), (.q (.move (.tmp 0))), none⟩, ⟨(some 8), (.q (.len true (.tmp 7))), none⟩, ⟨(some 9), (.q (.bin .lss (.tmp 8) (.const (.int .i64 4)))), none⟩]) 
    (.cond (.tmp 9) 
    (.seq 
    (.region [⟨(some 2), (.q (.move (.const (.int .i64 0)))), none⟩, ⟨(some 3), (.q (.move (.const (.bool false)))), none⟩]) .ret) .skip)) 
    (.seq 
    (.region [⟨(some 4), (.q (.move (.const (.int .i64 0)))), none⟩]) 
    (.seq 
    (.seq 
    (.region [⟨(some 10), (.q (.move (.tmp 0))), none⟩, ⟨(some 11), (.q (.sliceStr (.tmp 10) none (some (.const (.int .i64 4))))), none⟩, ⟨(some 12), (.s (.s2b 5 (.tmp 11))), none⟩, ⟨(some 13), (.q (.len false (.tmp 12))), none⟩, ⟨(some 14), (.q (.move (.const (.int .i64 0)))), none⟩]) 
    (.block 0 
    (.loop 
    (.seq 
    (.region [⟨(some 15), (.q (.bin .lss (.tmp 14) (.tmp 13))), none⟩]) 
    (.seq 
    (.cond (.tmp 15) .skip (.exit 0)) 
    (.seq 
    (.block 1 
    (.seq 
    (.region [⟨(some 16), (.q (.idxSl 1 (.tmp 12) (.tmp 14))), none⟩, ⟨(some 17), (.q (.load false 1 (.tmp 16))), none⟩, ⟨(some 6), (.q (.move (.tmp 17))), none⟩]) 
    (.region [⟨(some 18), (.q (.move (.tmp 4))), none⟩, ⟨(some 19), (.q (.bin .shl (.tmp 18) (.const (.int .u64 8)))), none⟩, ⟨(some 20), (.q (.move (.tmp 6))), none⟩, ⟨(some 21), (.q (.conv .i64 (.tmp 20))), none⟩, ⟨(some 22), (.q (.bin .or (.tmp 19) (.tmp 21))), none⟩, ⟨(some 4), (.q (.move (.tmp 22))), none⟩]))) 
    (.region [⟨(some 23), (.q (.bin .add (.tmp 14) (.const (.int .i64 1)))), none⟩, ⟨(some 14), (.q (.move (.tmp 23))), none⟩]))))))) 
    (.seq 
    (.region [⟨(some 24), (.q (.move (.tmp 4))), none⟩, ⟨(some 2), (.q (.move (.tmp 24))), none⟩, ⟨(some 3), (.q (.move (.const (.bool true)))), none⟩]) .ret)))))
theorem t169 : Told Tryz.prog 169 25 c169 [(.tmp 2), (.tmp 3)] := ⟨Tryz.f169, _, [], Tryz.func169, rfl, by kernel_rfl, rfl, by kernel_rfl, by kernel_rfl⟩
def c126 : ACode := 
    (.seq 
    (.region [⟨(some 2), (.q (.move (.const .nils))), none⟩, ⟨(some 3), (.q (.move (.const (.bool false)))), none⟩]) 
    (.seq 
    (.seq 
    (.region [⟨(some 7), (.q (.move (.tmp 0))), none⟩, ⟨(some 8), (.q (.len true (.tmp 7))), none⟩, ⟨(some 9), (.q (.bin .rem (.tmp 8) (.const (.int .i64 4)))), none⟩, ⟨(some 10), (.q (.bin .neq (.tmp 9) (.const (.int .i64 0)))), none⟩]) 
    (.cond (.tmp 10) 
    (.seq 
    (.region [⟨(some 2), (.q (.move (.const .nils))), none⟩, ⟨(some 3), (.q (.move (.const (.bool false)))), none⟩]) .ret) .skip)) 
    (.seq 
    (.region [⟨(some 4), (.q (.move (.const .nils))), none⟩]) 
    (.seq 
    (.block 0 
    (.loop 
    (.seq 
    (.seq 
    (.region [⟨(some 11), (.q (.move (.tmp 0))), none⟩, ⟨(some 12), (.q (.bin .neq (.tmp 11) (.const (.str (B []))))), none⟩]) 
    (.cond (.tmp 12) .skip (.exit 0))) 
    (.seq 
    (.block 1 
    (.seq 
    (.region [⟨(some 16), (.q (.move (.tmp 0))), none⟩, ⟨(some 17), (.s (.call 169 [(.tmp 16)])), none⟩, ⟨(some 15), (.q (.move (.tmp 17))), none⟩, ⟨(some 18), (.q (.extract 0 (.tmp 15))), none⟩, ⟨(some 19), (.q (.extract 1 (.tmp 15))), none⟩, ⟨(some 5), (.q (.move (.tmp 18))), none⟩, ⟨(some 6), (.q (.move (.tmp 19))), none⟩]) 
    (.region [⟨(some 20), (.q (.move (.tmp 4))), none⟩, ⟨(some 21), (.q (.move (.tmp 5))), none⟩, ⟨(some 22), (.s (.lit 3 1 [(.tmp 21)])), none⟩, ⟨(some 23), (.s (.app 3 1 8 (.tmp 20) (.tmp 22))), none⟩, ⟨(some 4), (.q (.move (.tmp 23))), none⟩]))) 
    (.region [⟨(some 13), (.q (.move (.tmp 0))), none⟩, ⟨(some 14), (.q (.sliceStr (.tmp 13) (some (.const (.int .i64 4))) none)), none⟩, ⟨(some 0), (.q (.move (.tmp 14))), none⟩]))))) 
    (.seq 
    (.region [⟨(some 24), (.q (.move (.tmp 4))), none⟩, ⟨(some 2), (.q (.move (.tmp 24))), none⟩, ⟨(some 3), (.q (.move (.const (.bool true)))), none⟩]) .ret)))))
theorem t126 : Told Tryz.prog 126 25 c126 [(.tmp 2), (.tmp 3)] := ⟨Tryz.f126, _, [], Tryz.func126, rfl, by kernel_rfl, rfl, by kernel_rfl, by kernel_rfl⟩
def c88 : ACode := 
    (.seq 
    (.region [⟨(some 2), (.q (.move (.const (.str (B []))))), none⟩]) 
    (.seq 
    (.region [⟨(some 3), (.q (.move (.const .nils))), none⟩]) 
    (.seq 
    (.seq 
    (.region [⟨(some 6), (.q (.move (.tmp 0))), none⟩, ⟨(some 7), (.q (.len false (.tmp 6))), none⟩, ⟨(some 8), (.q (.move (.const (.int .i64 0)))), none⟩]) 
    (.block 0 
    (.loop 
    (.seq 
    (.region [⟨(some 9), (.q (.bin .lss (.tmp 8) (.tmp 7))), none⟩]) 
    (.seq 
    (.cond (.tmp 9) .skip (.exit 0)) 
    (.seq 
    (.block 1 
    (.seq 
    (.region [⟨(some 10), (.q (.idxSl 1 (.tmp 6) (.tmp 8))), none⟩, ⟨(some 11), (.q (.load false 1 (.tmp 10))), none⟩, ⟨(some 5), (.q (.move (.tmp 11))), none⟩]) 
    (.region [⟨(some 12), (.q (.move (.tmp 3))), none⟩, ⟨(some 13), (.q (.move (.tmp 5))), none⟩, ⟨(some 14), (.q (.bin .shr (.tmp 13) (.const (.int .u64 24)))), none⟩, ⟨(some 15), (.q (.conv .u8 (.tmp 14))), none⟩, ⟨(some 16), (.q (.move (.tmp 5))), none⟩, ⟨(some 17), (.q (.bin .shr (.tmp 16) (.const (.int .u64 16)))), none⟩, ⟨(some 18), (.q (.conv .u8 (.tmp 17))), none⟩, ⟨(some 19), (.q (.move (.tmp 5))), none⟩, ⟨(some 20), (.q (.bin .shr (.tmp 19) (.const (.int .u64 8)))), none⟩, ⟨(some 21), (.q (.conv .u8 (.tmp 20))), none⟩, ⟨(some 22), (.q (.move (.tmp 5))), none⟩, ⟨(some 23), (.q (.conv .u8 (.tmp 22))), none⟩, ⟨(some 24), (.s (.lit 5 1 [(.tmp 15), (.tmp 18), (.tmp 21), (.tmp 23)])), none⟩, ⟨(some 25), (.s (.app 5 1 1 (.tmp 12) (.tmp 24))), none⟩, ⟨(some 3), (.q (.move (.tmp 25))), none⟩]))) 
    (.region [⟨(some 26), (.q (.bin .add (.tmp 8) (.const (.int .i64 1)))), none⟩, ⟨(some 8), (.q (.move (.tmp 26))), none⟩]))))))) 
    (.seq 
    (.region [⟨(some 27), (.q (.move (.tmp 3))), none⟩, ⟨(some 28), (.q (.b2s (.tmp 27))), none⟩, ⟨(some 2), (.q (.move (.tmp 28))), none⟩]) .ret))))
theorem t88 : Told Tryz.prog 88 29 c88 [(.tmp 2)] := ⟨Tryz.f88, _, [], Tryz.func88, rfl, by kernel_rfl, rfl, by kernel_rfl, by kernel_rfl⟩
def c91 : ACode := 
    (.seq 
    (.region [⟨(some 2), (.q (.move (.const (.str (B []))))), none⟩]) 
    (.seq 
    (.region [⟨(some 3), (.q (.move (.const (.str (B []))))), none⟩]) 
    (.seq 
    (.seq 
    (.region [⟨(some 4), (.q (.move (.const (.int .i64 0)))), none⟩]) 
    (.block 0 
    (.loop 
    (.seq 
    (.seq 
    (.region [⟨(some 5), (.q (.move (.tmp 4))), none⟩, ⟨(some 6), (.q (.move (.tmp 0))), none⟩, ⟨(some 7), (.q (.len false (.tmp 6))), none⟩, ⟨(some 8), (.q (.bin .lss (.tmp 5) (.tmp 7))), none⟩]) 
    (.cond (.tmp 8) .skip (.exit 0))) 
    (.seq 
    (.block 1 
    (.region [⟨(some 11), (.q (.move (.tmp 3))), none⟩, ⟨(some 12), (.q (.move (.tmp 0))), none⟩, ⟨(some 13), (.q (.move (.tmp 4))), none⟩, ⟨(some 14), (.q (.idxSl 1 (.tmp 12) (.tmp 13))), none⟩, ⟨(some 15), (.q (.load false 1 (.tmp 14))), none⟩, ⟨(some 16), (.s (.call 90 [(.tmp 15)])), none⟩, ⟨(some 17), (.q (.bin .add (.tmp 11) (.tmp 16))), none⟩, ⟨(some 3), (.q (.move (.tmp 17))), none⟩])) 
    (.region [⟨(some 9), (.q (.move (.tmp 4))), none⟩, ⟨(some 10), (.q (.bin .add (.tmp 9) (.const (.int .i64 1)))), none⟩, ⟨(some 4), (.q (.move (.tmp 10))), none⟩])))))) 
    (.seq 
    (.region [⟨(some 18), (.q (.move (.tmp 3))), none⟩, ⟨(some 2), (.q (.move (.tmp 18))), none⟩]) .ret))))
theorem t91 : Told Tryz.prog 91 19 c91 [(.tmp 2)] := ⟨Tryz.f91, _, [], Tryz.func91, rfl, by kernel_rfl, rfl, by kernel_rfl, by kernel_rfl⟩
def c90 : ACode := 
    (.seq 
    (.region [⟨(some 2), (.q (.move (.const (.str (B []))))), none⟩]) 
    (.seq 
    (.region [⟨(some 4), (.q (.move (.tmp 0))), none⟩, ⟨(some 5), (.q (.conv .u32 (.tmp 4))), none⟩, ⟨(some 3), (.q (.move (.tmp 5))), none⟩]) 
    (.seq 
    (.region [⟨(some 6), (.q (.move (.tmp 3))), none⟩, ⟨(some 7), (.q (.bin .quo (.tmp 6) (.const (.int .u32 16777216)))), none⟩, ⟨(some 8), (.q (.conv .u8 (.tmp 7))), none⟩, ⟨(some 9), (.q (.move (.tmp 3))), none⟩, ⟨(some 10), (.q (.bin .quo (.tmp 9) (.const (.int .u32 65536)))), none⟩, ⟨(some 11), (.q (.bin .rem (.tmp 10) (.const (.int .u32 256)))), none⟩, ⟨(some 12), (.q (.conv .u8 (.tmp 11))), none⟩, ⟨(some 13), (.q (.move (.tmp 3))), none⟩, ⟨(some 14), (.q (.bin .quo (.tmp 13) (.const (.int .u32 256)))), none⟩, ⟨(some 15), (.q (.bin .rem (.tmp 14) (.const (.int .u32 256)))), none⟩, ⟨(some 16), (.q (.conv .u8 (.tmp 15))), none⟩, ⟨(some 17), (.q (.move (.tmp 3))), none⟩, ⟨(some 18), (.q (.bin .rem (.tmp 17) (.const (.int .u32 256)))), none⟩, ⟨(some 19), (.q (.conv .u8 (.tmp 18))), none⟩, ⟨(some 20), (.s (.lit 5 1 [(.tmp 8), (.tmp 12), (.tmp 16), (.tmp 19)])), none⟩, ⟨(some 21), (.q (.b2s (.tmp 20))), none⟩, ⟨(some 2), (.q (.move (.tmp 21))), none⟩]) .ret)))
theorem t90 : Told Tryz.prog 90 22 c90 [(.tmp 2)] := ⟨Tryz.f90, _, [], Tryz.func90, rfl, by kernel_rfl, rfl, by kernel_rfl, by kernel_rfl⟩
theorem take_more {l : List UInt8} {i : Nat} (hi : i < l.length) : l.take (i + 1) = l.take i ++ [l[i]] := List.take_succ_eq_append_getElem hi
/-- What FromBig answers. -/
def fromBig (l : List UInt8) : AV := if l.length < 4 then .tup [.int .i64 0, .bool false] else .tup [.int .i64 (big (l.take 4) : Int), .bool true]
theorem under_nb (n : Nat) (a : Int) (b : Bool) : (AV.tup [.int .i64 a, .bool b]).under n := .tup _ (fun c hc => by
  simp only [List.mem_cons, List.not_mem_nil, or_false] at hc
  rcases hc with rfl | rfl
  · exact .int _ _
  · exact .bool _)
theorem fromBig_a {l : List UInt8} {H : AHeap} {K : AV → AHeap → Prop} (h : K (fromBig l) H) : (ACalls Tryz.prog) 169 [.str (B l)] H K := by
  refine acalls_go mo t169 (fun hs hu => ?_)
  simp only [c169, B_size, go_sem, Nat.reduceLeDiff, Nat.reduceAdd, Nat.reduceSub, Nat.reduceMul, Nat.reduceLT, Int.reduceLT, Int.reduceLE, Int.reduceAdd, Int.reduceSub, Int.reduceMul, Int.reduceToNat, Int.reduceNeg, Int.reduceEq, Nat.reducePow, Int.reducePow, Nat.reduceEqDiff, decide_true, decide_false, reduceIte, reduceCtorEq, Int.reduceBEq, Int.reduceBNe, bne_self_eq_false, Int.cast_ofNat_Int, Bool.not_true, Bool.not_false, IntKind.bits]
  refine cnd_split (fun h1 => ?_) (fun h1 => ?_)
  · have h2 : l.length < 4 := by simp at h1; omega
    simp only [go_sem, Nat.reduceLeDiff, Nat.reduceAdd, Nat.reduceSub, Nat.reduceMul, Nat.reduceLT, Int.reduceLT, Int.reduceLE, Int.reduceAdd, Int.reduceSub, Int.reduceMul, Int.reduceToNat, Int.reduceNeg, Int.reduceEq, Nat.reducePow, Int.reducePow, Nat.reduceEqDiff, decide_true, decide_false, reduceIte, reduceCtorEq, Int.reduceBEq, Int.reduceBNe, bne_self_eq_false, Int.cast_ofNat_Int, Bool.not_true, Bool.not_false, IntKind.bits]
    rw [fromBig, if_pos h2] at h
    exact aret_plain hs (under_nb _ _ _) h
  · have h2 : 4 ≤ l.length := by simp at h1; omega
    have h3 : (4 : Int) ≤ (l.length : Int) := by omega
    have h4 : min 4 l.length = 4 := by omega
    have h5 : (4 : Nat) ≤ 9223372036854775807 := by decide
    simp only [h3, B_ext, B_size, B_list, List.length_take, h4, h5, go_sem, Nat.reduceLeDiff, Nat.reduceAdd, Nat.reduceSub, Nat.reduceMul, Nat.reduceLT, Int.reduceLT, Int.reduceLE, Int.reduceAdd, Int.reduceSub, Int.reduceMul, Int.reduceToNat, Int.reduceNeg, Int.reduceEq, Nat.reducePow, Int.reducePow, Nat.reduceEqDiff, decide_true, decide_false, reduceIte, reduceCtorEq, Int.reduceBEq, Int.reduceBNe, bne_self_eq_false, Int.cast_ofNat_Int, Bool.not_true, Bool.not_false, IntKind.bits]
    rw [fromBig, if_neg (by omega)] at h
    refine go_loop mono (σ := Nat) (fun i => [.str (B l), .top, .int .i64 0, .bool false, .int .i64 (big ((l.take 4).take i) : Int), .top, .top, .top, .top, .top, .top, .top, .wr (H.next + 0) 0 0 4 1, .int .i64 4, .int .i64 (i : Int), .top, .top, .top, .top, .top, .top, .top, .top, .top, .top])
      (fun _ => hp H [.row 5 0 ((l.take 4).map byteV)]) (fun i => i ≤ 4) (fun i => 4 - i) 0 ?_ rfl (Nat.zero_le _) (fun i hi J hJ => ?_)
    · simp only [List.take_zero]
      repeat first | exact forget_nil | apply forget_keep | apply forget_top
    simp only [go_sem, Nat.reduceLeDiff, Nat.reduceAdd, Nat.reduceSub, Nat.reduceMul, Nat.reduceLT, Int.reduceLT, Int.reduceLE, Int.reduceAdd, Int.reduceSub, Int.reduceMul, Int.reduceToNat, Int.reduceNeg, Int.reduceEq, Nat.reducePow, Int.reducePow, Nat.reduceEqDiff, decide_true, decide_false, reduceIte, reduceCtorEq, Int.reduceBEq, Int.reduceBNe, bne_self_eq_false, Int.cast_ofNat_Int, Bool.not_true, Bool.not_false, IntKind.bits]
    refine cnd_split (fun h6 => ?_) (fun h6 => ?_)
    · have hi' : i < 4 := by simp at h6; omega
      have hl : i < (l.take 4).length := by simp; omega
      have hc : ((i : Int) < 4) = True := by simp; omega
      have hb := big_lt i ((l.take 4).take i) (by simp; omega)
      have hb2 : 256 ^ i ≤ 256 ^ 3 := Nat.pow_le_pow_right (by decide) (by omega)
      have hw : IntKind.wrap .i64 ((l.take 4)[i].toNat : Int) = ((l.take 4)[i].toNat : Int) := wi64 (by omega) (by have := (l.take 4)[i].toNat_lt; omega)
      simp (disch := omega) only [hc, bytesV_get _ i hl, Nat.mul_one, hw, shl_i64, wi64, or_byte, wnext hi', go_sem, Nat.reduceLeDiff, Nat.reduceAdd, Nat.reduceSub, Nat.reduceMul, Nat.reduceLT, Int.reduceLT, Int.reduceLE, Int.reduceAdd, Int.reduceSub, Int.reduceMul, Int.reduceToNat, Int.reduceNeg, Int.reduceEq, Nat.reducePow, Int.reducePow, Nat.reduceEqDiff, decide_true, decide_false, reduceIte, reduceCtorEq, Int.reduceBEq, Int.reduceBNe, bne_self_eq_false, Int.cast_ofNat_Int, Bool.not_true, Bool.not_false, IntKind.bits]
      refine hJ (i + 1) _ (by omega) (by omega) ?_
      rw [take_more hl, big_snoc]
      repeat first | exact forget_nil | apply forget_keep | apply forget_top
    · have hi' : i = 4 := by simp at h6; omega
      subst hi'
      simp only [List.take_take, Nat.min_self, go_sem, Nat.reduceLeDiff, Nat.reduceAdd, Nat.reduceSub, Nat.reduceMul, Nat.reduceLT, Int.reduceLT, Int.reduceLE, Int.reduceAdd, Int.reduceSub, Int.reduceMul, Int.reduceToNat, Int.reduceNeg, Int.reduceEq, Nat.reducePow, Int.reducePow, Nat.reduceEqDiff, decide_true, decide_false, reduceIte, reduceCtorEq, Int.reduceBEq, Int.reduceBNe, bne_self_eq_false, Int.cast_ofNat_Int, Bool.not_true, Bool.not_false, IntKind.bits]
      exact aret_plain hs (under_nb _ _ _) h
/-- The numbers of n times four bytes. -/
def words : Nat → List UInt8 → List Int
  | 0, _ => []
  | n + 1, l => (big (l.take 4) : Int) :: words n (l.drop 4)
theorem words_len : ∀ (n : Nat) (l : List UInt8), (words n l).length = n
  | 0, _ => rfl
  | n + 1, l => by simp [words, words_len n]
theorem words_snoc : ∀ (n : Nat) (l : List UInt8), words (n + 1) l = words n l ++ [(big ((l.drop (4 * n)).take 4) : Int)]
  | 0, l => by simp [words]
  | n + 1, l => by
    rw [words, words_snoc n, words, List.drop_drop, List.cons_append, show 4 + 4 * n = 4 * (n + 1) by omega]
/-- What FromBigs answers. -/
def fromBigs (l : List UInt8) : AV := if l.length % 4 = 0 then .tup [immOf 1 ((words (l.length / 4) l).map (.int .i64)), .bool true] else .tup [.nils, .bool false]
theorem under_tb {n : Nat} {y : AV} (b : Bool) (h : y.under n) : (AV.tup [y, .bool b]).under n := .tup _ (fun c hc => by
  simp only [List.mem_cons, List.not_mem_nil, or_false] at hc
  rcases hc with rfl | rfl
  · exact h
  · exact .bool _)
theorem mod4 (l : List UInt8) : ((l.length : Int).tmod 4 != 0) = decide (¬ l.length % 4 = 0) := by
  rw [Int.tmod_eq_emod_of_nonneg (by omega), show (l.length : Int) % 4 = ((l.length % 4 : Nat) : Int) by omega]
  by_cases h : l.length % 4 = 0 <;> simp [h]
  omega
theorem fromBigs_a {l : List UInt8} {H : AHeap} {K : AV → AHeap → Prop} (hl : l.length ≤ 100000) (h : K (fromBigs l) H) : (ACalls Tryz.prog) 126 [.str (B l)] H K := by
  refine acalls_go mo t126 (fun hs hu => ?_)
  simp only [c126, B_size, mod4, go_sem, Nat.reduceLeDiff, Nat.reduceAdd, Nat.reduceSub, Nat.reduceMul, Nat.reduceLT, Int.reduceLT, Int.reduceLE, Int.reduceAdd, Int.reduceSub, Int.reduceMul, Int.reduceToNat, Int.reduceNeg, Int.reduceEq, Nat.reducePow, Int.reducePow, Nat.reduceEqDiff, decide_true, decide_false, reduceIte, reduceCtorEq, Int.reduceBEq, Int.reduceBNe, bne_self_eq_false, Int.cast_ofNat_Int, Bool.not_true, Bool.not_false, IntKind.bits]
  refine cnd_split (fun h1 => ?_) (fun h1 => ?_)
  · have h2 : ¬ l.length % 4 = 0 := by simpa using h1
    simp only [go_sem, Nat.reduceLeDiff, Nat.reduceAdd, Nat.reduceSub, Nat.reduceMul, Nat.reduceLT, Int.reduceLT, Int.reduceLE, Int.reduceAdd, Int.reduceSub, Int.reduceMul, Int.reduceToNat, Int.reduceNeg, Int.reduceEq, Nat.reducePow, Int.reducePow, Nat.reduceEqDiff, decide_true, decide_false, reduceIte, reduceCtorEq, Int.reduceBEq, Int.reduceBNe, bne_self_eq_false, Int.cast_ofNat_Int, Bool.not_true, Bool.not_false, IntKind.bits]
    rw [fromBigs, if_neg h2] at h
    exact aret_plain hs (under_tb _ .nils) h
  · have h2 : l.length % 4 = 0 := by simpa using h1
    rw [fromBigs, if_pos h2] at h
    simp only [go_sem, Nat.reduceLeDiff, Nat.reduceAdd, Nat.reduceSub, Nat.reduceMul, Nat.reduceLT, Int.reduceLT, Int.reduceLE, Int.reduceAdd, Int.reduceSub, Int.reduceMul, Int.reduceToNat, Int.reduceNeg, Int.reduceEq, Nat.reducePow, Int.reducePow, Nat.reduceEqDiff, decide_true, decide_false, reduceIte, reduceCtorEq, Int.reduceBEq, Int.reduceBNe, bne_self_eq_false, Int.cast_ofNat_Int, Bool.not_true, Bool.not_false, IntKind.bits]
    refine go_loop mono (σ := Nat) (fun i => [.str (B (l.drop (4 * i))), .top, .nils, .bool false, slv (H.next + 0) 1 1 i, .top, .top, .top, .top, .top, .top, .top, .top, .top, .top, .top, .top, .top, .top, .top, .top, .top, .top, .top, .top])
      (fun i => hp H (slh 3 i ((words i l).map (.int .i64)))) (fun i => 4 * i ≤ l.length) (fun i => l.length - i) 0 ?_ rfl (by simp) (fun i hi J hJ => ?_)
    · simp only [Nat.mul_zero, List.drop_zero, slv]
      repeat first | exact forget_nil | apply forget_keep | apply forget_top
    simp only [B_toList, go_sem, Nat.reduceLeDiff, Nat.reduceAdd, Nat.reduceSub, Nat.reduceMul, Nat.reduceLT, Int.reduceLT, Int.reduceLE, Int.reduceAdd, Int.reduceSub, Int.reduceMul, Int.reduceToNat, Int.reduceNeg, Int.reduceEq, Nat.reducePow, Int.reducePow, Nat.reduceEqDiff, decide_true, decide_false, reduceIte, reduceCtorEq, Int.reduceBEq, Int.reduceBNe, bne_self_eq_false, Int.cast_ofNat_Int, Bool.not_true, Bool.not_false, IntKind.bits]
    refine cnd_split (fun h6 => ?_) (fun h6 => ?_)
    · have hi' : 4 * i + 4 ≤ l.length := by
        have : l.drop (4 * i) ≠ [] := by simpa using h6
        have := List.length_pos_iff.2 this
        simp at this
        omega
      simp only [go_sem, Nat.reduceLeDiff, Nat.reduceAdd, Nat.reduceSub, Nat.reduceMul, Nat.reduceLT, Int.reduceLT, Int.reduceLE, Int.reduceAdd, Int.reduceSub, Int.reduceMul, Int.reduceToNat, Int.reduceNeg, Int.reduceEq, Nat.reducePow, Int.reducePow, Nat.reduceEqDiff, decide_true, decide_false, reduceIte, reduceCtorEq, Int.reduceBEq, Int.reduceBNe, bne_self_eq_false, Int.cast_ofNat_Int, Bool.not_true, Bool.not_false, IntKind.bits]
      refine fromBig_a ?_
      have hd : ¬ (l.drop (4 * i)).length < 4 := by simp; omega
      have hd2 : (4 : Int) ≤ ((l.drop (4 * i)).length : Int) := by omega
      simp only [fromBig, hd, B_size, B_ext, List.take_length, List.drop_drop, go_sem, Nat.reduceLeDiff, Nat.reduceAdd, Nat.reduceSub, Nat.reduceMul, Nat.reduceLT, Int.reduceLT, Int.reduceLE, Int.reduceAdd, Int.reduceSub, Int.reduceMul, Int.reduceToNat, Int.reduceNeg, Int.reduceEq, Nat.reducePow, Int.reducePow, Nat.reduceEqDiff, decide_true, decide_false, reduceIte, reduceCtorEq, Int.reduceBEq, Int.reduceBNe, bne_self_eq_false, Int.cast_ofNat_Int, Bool.not_true, Bool.not_false, IntKind.bits]
      rw [aapp_slv0 (m := 1) (k := i) (b := 8) (cs := (words i l).map (.int .i64)) (xs := [.int .i64 (big ((l.drop (4 * i)).take 4) : Int)]) (by simp [words_len]) (by simp [cells_int]) rfl (by decide) (by simp [cells_int, one_int]) (by omega)]
      simp only [hd2, Int.le_refl, B_ext, B_size, List.take_length, List.drop_drop, go_sem, Nat.reduceLeDiff, Nat.reduceAdd, Nat.reduceSub, Nat.reduceMul, Nat.reduceLT, Int.reduceLT, Int.reduceLE, Int.reduceAdd, Int.reduceSub, Int.reduceMul, Int.reduceToNat, Int.reduceNeg, Int.reduceEq, Nat.reducePow, Int.reducePow, Nat.reduceEqDiff, decide_true, decide_false, reduceIte, reduceCtorEq, Int.reduceBEq, Int.reduceBNe, bne_self_eq_false, Int.cast_ofNat_Int, Bool.not_true, Bool.not_false, IntKind.bits]
      have hh : (words i l).map (AV.int .i64) ++ [AV.int .i64 (big ((l.drop (4 * i)).take 4) : Int)].flatMap AV.cells = (words (i + 1) l).map (AV.int .i64) := by
        rw [words_snoc, List.map_append]
        rfl
      rw [hh]
      refine hJ (i + 1) _ (by omega) (by omega) ?_
      rw [show 4 * (i + 1) = 4 * i + 4 by omega]
      repeat first | exact forget_nil | apply forget_keep | apply forget_top
    · have hi' : l.length / 4 = i := by
        have : l.drop (4 * i) = [] := by simpa using h6
        have := congrArg List.length this
        simp at this
        omega
      simp only [go_sem, Nat.reduceLeDiff, Nat.reduceAdd, Nat.reduceSub, Nat.reduceMul, Nat.reduceLT, Int.reduceLT, Int.reduceLE, Int.reduceAdd, Int.reduceSub, Int.reduceMul, Int.reduceToNat, Int.reduceNeg, Int.reduceEq, Nat.reducePow, Int.reducePow, Nat.reduceEqDiff, decide_true, decide_false, reduceIte, reduceCtorEq, Int.reduceBEq, Int.reduceBNe, bne_self_eq_false, Int.cast_ofNat_Int, Bool.not_true, Bool.not_false, IntKind.bits]
      rw [hi'] at h
      exact aret_slv (xs := (words i l).map (.int .i64)) (by simp [cells_int]) (by simp [words_len]) (by decide) (ints_flat _ _).symm hs (under_map _ (cells_int _) _ (fun _ => .int _ _) _ _) (fun y => .tup [y, .bool true])
        (fun y H0 H1 y1 hh => .tup _ _ [] [.bool true] _ _ hh) (fun y hy => under_tb _ hy) h
/-- The four bytes of a number. -/
def four (n : Int) : List UInt8 := [b8 (n / 16777216), b8 (n / 65536), b8 (n / 256), b8 n]
def fours (l : List Int) : List UInt8 := l.flatMap four
theorem fours_snoc (l : List Int) (n : Int) : fours (l ++ [n]) = fours l ++ four n := by simp [fours]
theorem fours_len : ∀ l : List Int, (fours l).length = l.length * 4
  | [] => rfl
  | n :: l => by
    rw [fours, List.flatMap_cons, List.length_append, ← fours, fours_len l, List.length_cons, four]
    simp only [List.length_cons, List.length_nil]
    omega
theorem bigs_a {l : List Int} {H : AHeap} {K : AV → AHeap → Prop} (hl : l.length ≤ 100000) (h : K (.str (B (fours l))) H) : (ACalls Tryz.prog) 88 [.imm 1 (l.map (.int .i64))] H K := by
  refine acalls_go mo t88 (fun hs hu => ?_)
  simp only [c88, List.length_map, go_sem, Nat.reduceLeDiff, Nat.reduceAdd, Nat.reduceSub, Nat.reduceMul, Nat.reduceLT, Int.reduceLT, Int.reduceLE, Int.reduceAdd, Int.reduceSub, Int.reduceMul, Int.reduceToNat, Int.reduceNeg, Int.reduceEq, Nat.reducePow, Int.reducePow, Nat.reduceEqDiff, decide_true, decide_false, reduceIte, reduceCtorEq, Int.reduceBEq, Int.reduceBNe, bne_self_eq_false, Int.cast_ofNat_Int, Bool.not_true, Bool.not_false, IntKind.bits]
  refine go_loop mono (σ := Nat) (fun i => [.imm 1 (l.map (.int .i64)), .top, .str (B []), slv (H.next + 0) 4 1 i, .top, .top, .imm 1 (l.map (.int .i64)), .int .i64 (l.length : Int), .int .i64 (i : Int), .top, .top, .top, .top, .top, .top, .top, .top, .top, .top, .top, .top, .top, .top, .top, .top, .top, .top, .top, .top])
      (fun i => hp H (slh 5 i ((fours (l.take i)).map byteV))) (fun i => i ≤ l.length) (fun i => l.length - i) 0 ?_ rfl (by simp) (fun i hi J hJ => ?_)
  · simp only [slv]
    repeat first | exact forget_nil | apply forget_keep | apply forget_top
  simp only [go_sem, Nat.reduceLeDiff, Nat.reduceAdd, Nat.reduceSub, Nat.reduceMul, Nat.reduceLT, Int.reduceLT, Int.reduceLE, Int.reduceAdd, Int.reduceSub, Int.reduceMul, Int.reduceToNat, Int.reduceNeg, Int.reduceEq, Nat.reducePow, Int.reducePow, Nat.reduceEqDiff, decide_true, decide_false, reduceIte, reduceCtorEq, Int.reduceBEq, Int.reduceBNe, bne_self_eq_false, Int.cast_ofNat_Int, Bool.not_true, Bool.not_false, IntKind.bits]
  refine cnd_split (fun h1 => ?_) (fun h1 => ?_)
  · have hi' : i < l.length := by simpa using h1
    have hx : (l.map (AV.int .i64))[i]? = some (.int .i64 l[i]) := by rw [List.getElem?_map, List.getElem?_eq_getElem hi']; rfl
    simp (disch := omega) only [hx, shr_i64, byte_wrap, go_sem, Nat.reduceLeDiff, Nat.reduceAdd, Nat.reduceSub, Nat.reduceMul, Nat.reduceLT, Int.reduceLT, Int.reduceLE, Int.reduceAdd, Int.reduceSub, Int.reduceMul, Int.reduceToNat, Int.reduceNeg, Int.reduceEq, Nat.reducePow, Int.reducePow, Nat.reduceEqDiff, decide_true, decide_false, reduceIte, reduceCtorEq, Int.reduceBEq, Int.reduceBNe, bne_self_eq_false, Int.cast_ofNat_Int, Bool.not_true, Bool.not_false, IntKind.bits]
    have hlen : (fours (l.take i)).length = i * 4 := by rw [fours_len, List.length_take]; omega
    have h4 : [byteV (b8 (l[i] / 16777216)), byteV (b8 (l[i] / 65536)), byteV (b8 (l[i] / 256)), byteV (b8 l[i])] = (four l[i]).map byteV := rfl
    rw [h4, aapp_slv0 (m := 4) (k := i) (b := 1) (cs := (fours (l.take i)).map byteV) (xs := (four l[i]).map byteV) (by rw [List.length_map, hlen]; omega) (by simp [cells_byteV]) rfl (by decide) (by simp [cells_byteV, one_byteV]) (by omega)]
    simp only [wnext hi' (by omega : l.length ≤ 9223372036854775807), go_sem, Nat.reduceLeDiff, Nat.reduceAdd, Nat.reduceSub, Nat.reduceMul, Nat.reduceLT, Int.reduceLT, Int.reduceLE, Int.reduceAdd, Int.reduceSub, Int.reduceMul, Int.reduceToNat, Int.reduceNeg, Int.reduceEq, Nat.reducePow, Int.reducePow, Nat.reduceEqDiff, decide_true, decide_false, reduceIte, reduceCtorEq, Int.reduceBEq, Int.reduceBNe, bne_self_eq_false, Int.cast_ofNat_Int, Bool.not_true, Bool.not_false, IntKind.bits]
    have hh : (fours (l.take i)).map byteV ++ ((four l[i]).map byteV).flatMap AV.cells = (fours (l.take (i + 1))).map byteV := by
      rw [List.take_succ_eq_append_getElem hi', fours_snoc, List.map_append, bytes_flat]
    rw [hh]
    refine hJ (i + 1) _ (by omega) (by omega) ?_
    repeat first | exact forget_nil | apply forget_keep | apply forget_top
  · have hi' : i = l.length := by simp at h1; omega
    subst hi'
    rw [List.take_of_length_le (Nat.le_refl _)]
    simp only [b2s_slv (by rw [fours_len] : (fours l).length = l.length * 4), go_sem, Nat.reduceLeDiff, Nat.reduceAdd, Nat.reduceSub, Nat.reduceMul, Nat.reduceLT, Int.reduceLT, Int.reduceLE, Int.reduceAdd, Int.reduceSub, Int.reduceMul, Int.reduceToNat, Int.reduceNeg, Int.reduceEq, Nat.reducePow, Int.reducePow, Nat.reduceEqDiff, decide_true, decide_false, reduceIte, reduceCtorEq, Int.reduceBEq, Int.reduceBNe, bne_self_eq_false, Int.cast_ofNat_Int, Bool.not_true, Bool.not_false, IntKind.bits]
    exact aret_plain hs (.str _) h
theorem rbig_a {n : Int} {H : AHeap} {K : AV → AHeap → Prop} (h : K (.str (B (four n))) H) : (ACalls Tryz.prog) 90 [.int .i64 n] H K := by
  refine acalls_go mo t90 (fun hs hu => ?_)
  have e1 : b8 (IntKind.wrap .u32 ((IntKind.wrap .u32 n).tdiv 16777216)) = b8 (n / 16777216) := by
    unfold b8
    simp only [IntKind.wrap_u32]
    rw [Int.tdiv_eq_ediv_of_nonneg (by omega)]
    congr 2
    omega
  have e2 : b8 ((IntKind.wrap .u32 ((IntKind.wrap .u32 n).tdiv 65536)).tmod 256) = b8 (n / 65536) := by
    unfold b8
    simp only [IntKind.wrap_u32]
    rw [Int.tdiv_eq_ediv_of_nonneg (by omega), Int.tmod_eq_emod_of_nonneg (by omega)]
    congr 2
    omega
  have e3 : b8 ((IntKind.wrap .u32 ((IntKind.wrap .u32 n).tdiv 256)).tmod 256) = b8 (n / 256) := by
    unfold b8
    simp only [IntKind.wrap_u32]
    rw [Int.tdiv_eq_ediv_of_nonneg (by omega), Int.tmod_eq_emod_of_nonneg (by omega)]
    congr 2
    omega
  have e4 : b8 ((IntKind.wrap .u32 n).tmod 256) = b8 n := by
    unfold b8
    simp only [IntKind.wrap_u32]
    rw [Int.tmod_eq_emod_of_nonneg (by omega)]
    congr 2
    omega
  simp only [c90, byte_wrap, e1, e2, e3, e4, go_sem, Nat.reduceLeDiff, Nat.reduceAdd, Nat.reduceSub, Nat.reduceMul, Nat.reduceLT, Int.reduceLT, Int.reduceLE, Int.reduceAdd, Int.reduceSub, Int.reduceMul, Int.reduceToNat, Int.reduceNeg, Int.reduceEq, Nat.reducePow, Int.reducePow, Nat.reduceEqDiff, decide_true, decide_false, reduceIte, reduceCtorEq, Int.reduceBEq, Int.reduceBNe, bne_self_eq_false, Int.cast_ofNat_Int, Bool.not_true, Bool.not_false, IntKind.bits]
  have := b2s_imm (hp H []) (four n)
  simp only [four, List.map_cons, List.map_nil] at this
  simp only [this, go_sem, Nat.reduceLeDiff, Nat.reduceAdd, Nat.reduceSub, Nat.reduceMul, Nat.reduceLT, Int.reduceLT, Int.reduceLE, Int.reduceAdd, Int.reduceSub, Int.reduceMul, Int.reduceToNat, Int.reduceNeg, Int.reduceEq, Nat.reducePow, Int.reducePow, Nat.reduceEqDiff, decide_true, decide_false, reduceIte, reduceCtorEq, Int.reduceBEq, Int.reduceBNe, bne_self_eq_false, Int.cast_ofNat_Int, Bool.not_true, Bool.not_false, IntKind.bits]
  exact aret_plain hs (.str _) h
theorem rbigs_a {l : List Int} {H : AHeap} {K : AV → AHeap → Prop} (hl : l.length ≤ 100000) (h : K (.str (B (fours l))) H) : (ACalls Tryz.prog) 91 [.imm 1 (l.map (.int .i64))] H K := by
  refine acalls_go mo t91 (fun hs hu => ?_)
  simp only [c91, List.length_map, go_sem, Nat.reduceLeDiff, Nat.reduceAdd, Nat.reduceSub, Nat.reduceMul, Nat.reduceLT, Int.reduceLT, Int.reduceLE, Int.reduceAdd, Int.reduceSub, Int.reduceMul, Int.reduceToNat, Int.reduceNeg, Int.reduceEq, Nat.reducePow, Int.reducePow, Nat.reduceEqDiff, decide_true, decide_false, reduceIte, reduceCtorEq, Int.reduceBEq, Int.reduceBNe, bne_self_eq_false, Int.cast_ofNat_Int, Bool.not_true, Bool.not_false, IntKind.bits]
  refine go_loop mono (σ := Nat) (fun i => [.imm 1 (l.map (.int .i64)), .top, .str (B []), .str (B (fours (l.take i))), .int .i64 (i : Int), .top, .top, .top, .top, .top, .top, .top, .top, .top, .top, .top, .top, .top, .top])
      (fun i => hp H []) (fun i => i ≤ l.length) (fun i => l.length - i) 0 ?_ rfl (by simp) (fun i hi J hJ => ?_)
  · simp only [List.take_zero, show fours [] = [] from rfl]
    repeat first | exact forget_nil | apply forget_keep | apply forget_top
  simp only [List.length_map, go_sem, Nat.reduceLeDiff, Nat.reduceAdd, Nat.reduceSub, Nat.reduceMul, Nat.reduceLT, Int.reduceLT, Int.reduceLE, Int.reduceAdd, Int.reduceSub, Int.reduceMul, Int.reduceToNat, Int.reduceNeg, Int.reduceEq, Nat.reducePow, Int.reducePow, Nat.reduceEqDiff, decide_true, decide_false, reduceIte, reduceCtorEq, Int.reduceBEq, Int.reduceBNe, bne_self_eq_false, Int.cast_ofNat_Int, Bool.not_true, Bool.not_false, IntKind.bits]
  refine cnd_split (fun h1 => ?_) (fun h1 => ?_)
  · have hi' : i < l.length := by simpa using h1
    have hx : (l.map (AV.int .i64))[i]? = some (.int .i64 l[i]) := by rw [List.getElem?_map, List.getElem?_eq_getElem hi']; rfl
    simp (disch := omega) only [hx, go_sem, Nat.reduceLeDiff, Nat.reduceAdd, Nat.reduceSub, Nat.reduceMul, Nat.reduceLT, Int.reduceLT, Int.reduceLE, Int.reduceAdd, Int.reduceSub, Int.reduceMul, Int.reduceToNat, Int.reduceNeg, Int.reduceEq, Nat.reducePow, Int.reducePow, Nat.reduceEqDiff, decide_true, decide_false, reduceIte, reduceCtorEq, Int.reduceBEq, Int.reduceBNe, bne_self_eq_false, Int.cast_ofNat_Int, Bool.not_true, Bool.not_false, IntKind.bits]
    refine rbig_a ?_
    have hlen : (fours (l.take i)).length = i * 4 := by rw [fours_len, List.length_take]; omega
    have hsz : (fours (l.take i)).length + (four l[i]).length ≤ 9223372036854775807 := by rw [hlen]; simp [four]; omega
    simp only [wnext hi' (by omega : l.length ≤ 9223372036854775807), B_size, hsz, B_app, ← fours_snoc, ← List.take_succ_eq_append_getElem hi', go_sem, Nat.reduceLeDiff, Nat.reduceAdd, Nat.reduceSub, Nat.reduceMul, Nat.reduceLT, Int.reduceLT, Int.reduceLE, Int.reduceAdd, Int.reduceSub, Int.reduceMul, Int.reduceToNat, Int.reduceNeg, Int.reduceEq, Nat.reducePow, Int.reducePow, Nat.reduceEqDiff, decide_true, decide_false, reduceIte, reduceCtorEq, Int.reduceBEq, Int.reduceBNe, bne_self_eq_false, Int.cast_ofNat_Int, Bool.not_true, Bool.not_false, IntKind.bits]
    refine hJ (i + 1) _ (by omega) (by omega) ?_
    repeat first | exact forget_nil | apply forget_keep | apply forget_top
  · have hi' : i = l.length := by simp at h1; omega
    subst hi'
    rw [List.take_of_length_le (Nat.le_refl _)]
    simp only [go_sem, Nat.reduceLeDiff, Nat.reduceAdd, Nat.reduceSub, Nat.reduceMul, Nat.reduceLT, Int.reduceLT, Int.reduceLE, Int.reduceAdd, Int.reduceSub, Int.reduceMul, Int.reduceToNat, Int.reduceNeg, Int.reduceEq, Nat.reducePow, Int.reducePow, Nat.reduceEqDiff, decide_true, decide_false, reduceIte, reduceCtorEq, Int.reduceBEq, Int.reduceBNe, bne_self_eq_false, Int.cast_ofNat_Int, Bool.not_true, Bool.not_false, IntKind.bits]
    exact aret_plain hs (.str _) h
end Go.Proofs.YtmdgjfadbhenjaaGreatDoor.AL
/- Builders: what their functions do in any program that bears them (after the shelf's own walks), over worlds of which only the builder's cells are told. -/
namespace Go.Proofs.YtmdgjfadbhenjaaGreatDoor.AL
open Go Go.Proofs Go.Shelf Go.RowKit
section
variable {P : Program} {ρ : Ren}
end
end Go.Proofs.YtmdgjfadbhenjaaGreatDoor.AL
/- The code of builders, told. -/
namespace Go.Proofs.YtmdgjfadbhenjaaGreatDoor.AL
open Go Go.Proofs
end Go.Proofs.YtmdgjfadbhenjaaGreatDoor.AL
/- Builders told: a row of two cells, of which the second is the bytes so far. -/
set_option linter.unusedVariables false
set_option linter.unusedSimpArgs false
set_option maxRecDepth 100000
set_option maxHeartbeats 16000000
namespace Go.Proofs
open Go.Shelf
shelf_lay Lays.n169 Nm 169 at Tryz as Tryz.lays169
namespace YtmdgjfadbhenjaaGreatDoor.AL
open Go Go.RowKit
attribute [local go_sem] go_seq go_skip go_region go_regionN go_fregion rgF_some go_cond go_block go_exit go_ret nxt_nil nxt_code nxt_blk nxt_cut leave_nil leave_code leave_cut leave_blk rtn_nil rtn_code rtn_blk rtn_cut cnd_t cnd_f rgn_nil rgY_some rgY_none rgH_some rgP_some retTo_is rgV_func grd_und grd_tt grd_ff grd_tf grd_ft rgn_q rgn_alloc rgn_box rgn_store rgn_lit rgn_litw rgn_litc litCells_nil litCells_cons rgn_app rgn_copy rgn_mk rgn_s2b rgn_call rgn_callv rgn_stop rgn_slice3 aslice3 rgn_slice3l aslice3l rgn_appz rgn_clear rgn_range rgn_next arange acap rgn_put rgn_mkmap rgn_lookup rgn_mapup alookup_nilm alookup_map amapup_map afound_ok afound_no rgn_c rgn_cv qclV_func aloadr rgn_guard post_ret post_normal retY_some ares aresL ares1 AX.ev aput List.getD_cons_zero List.getD_cons_succ List.set_cons_zero List.set_cons_succ List.map_cons List.map_nil aq abin aint astr abeq aconv asame aextract alenS alenL_nils alenL_emp alenL_imm alenL_wr alenL_wc aun apart aload afieldAddr afield aidxSl_wr aidxSl_wc aidxSl_imm aidxPt aidxStr aidxArr abound asliceStr asliceSl asliceArr abest anonil afill astore acells_nils acells_emp acells_imm acells_wr acells_wc acells_str acopy litAll amk as2b anil nilOf aseq aeqs aeqv fits fit1 hp_next hp_push hp_get hp_set List.length_cons List.length_nil List.getElem?_cons_zero List.getElem?_cons_succ List.cons_append List.nil_append List.append_nil List.take_succ_cons List.take_zero List.drop_succ_cons List.drop_zero List.all_cons List.all_nil Option.map_some Option.some.injEq Bool.and_true Bool.true_and Bool.false_eq_true if_true if_false ite_true ite_false Bool.and_self true_and and_true and_self Nat.zero_add Nat.le_refl Int.toNat_natCast beq_self_eq_true eq_self tops_zero tops_succ Int.natCast_nonneg List.take_nil List.drop_nil Option.map_none flat_bool one_bool cells_bool flat_int one_int cells_int flat_str one_str cells_str flat_nilp one_nilp cells_nilp flat_ptr one_ptr cells_ptr flat_nils one_nils cells_nils flat_imm one_imm cells_imm flat_wr one_wr cells_wr flat_wc one_wc cells_wc flat_func one_func cells_func flat_nilf one_nilf cells_nilf flat_map one_map cells_map flat_nilm one_nilm cells_nilm flat_iface one_iface cells_iface flat_nili one_nili cells_nili flat_rd one_rd cells_rd flat_emp one_emp cells_emp flat_byteV one_byteV cells_byteV flat_agg cells_agg one_agg B_size B_list B_ext B_toList B_app List.take_length Int.le_refl
section
variable {g : Ghost} {w w' : World} {H : AHeap}
end
section
variable {H : AHeap} {K : AV → AHeap → Prop} {id : Nat} {p v : AV}
end
end YtmdgjfadbhenjaaGreatDoor.AL
end Go.Proofs

/- Builders told: what is written to them, and what they hold. -/
set_option linter.unusedVariables false
set_option linter.unusedSimpArgs false
set_option maxRecDepth 100000
set_option maxHeartbeats 16000000
namespace Go.Proofs.YtmdgjfadbhenjaaGreatDoor.AL
open Go Go.Proofs
attribute [local go_sem] go_seq go_skip go_region go_regionN go_fregion rgF_some go_cond go_block go_exit go_ret nxt_nil nxt_code nxt_blk nxt_cut leave_nil leave_code leave_cut leave_blk rtn_nil rtn_code rtn_blk rtn_cut cnd_t cnd_f rgn_nil rgY_some rgY_none rgH_some rgP_some retTo_is rgV_func grd_und grd_tt grd_ff grd_tf grd_ft rgn_q rgn_alloc rgn_box rgn_store rgn_lit rgn_litw rgn_litc litCells_nil litCells_cons rgn_app rgn_copy rgn_mk rgn_s2b rgn_call rgn_callv rgn_stop rgn_slice3 aslice3 rgn_slice3l aslice3l rgn_appz rgn_clear rgn_range rgn_next arange acap rgn_put rgn_mkmap rgn_lookup rgn_mapup alookup_nilm alookup_map amapup_map afound_ok afound_no rgn_c rgn_cv qclV_func aloadr rgn_guard post_ret post_normal retY_some ares aresL ares1 AX.ev aput List.getD_cons_zero List.getD_cons_succ List.set_cons_zero List.set_cons_succ List.map_cons List.map_nil aq abin aint astr abeq aconv asame aextract alenS alenL_nils alenL_emp alenL_imm alenL_wr alenL_wc aun apart aload afieldAddr afield aidxSl_wr aidxSl_wc aidxSl_imm aidxPt aidxStr aidxArr abound asliceStr asliceSl asliceArr abest anonil afill astore acells_nils acells_emp acells_imm acells_wr acells_wc acells_str acopy litAll amk as2b anil nilOf aseq aeqs aeqv fits fit1 hp_next hp_push hp_get hp_set List.length_cons List.length_nil List.getElem?_cons_zero List.getElem?_cons_succ List.cons_append List.nil_append List.append_nil List.take_succ_cons List.take_zero List.drop_succ_cons List.drop_zero List.all_cons List.all_nil Option.map_some Option.some.injEq Bool.and_true Bool.true_and Bool.false_eq_true if_true if_false ite_true ite_false Bool.and_self true_and and_true and_self Nat.zero_add Nat.le_refl Int.toNat_natCast beq_self_eq_true eq_self tops_zero tops_succ Int.natCast_nonneg List.take_nil List.drop_nil Option.map_none flat_bool one_bool cells_bool flat_int one_int cells_int flat_str one_str cells_str flat_nilp one_nilp cells_nilp flat_ptr one_ptr cells_ptr flat_nils one_nils cells_nils flat_imm one_imm cells_imm flat_wr one_wr cells_wr flat_wc one_wc cells_wc flat_func one_func cells_func flat_nilf one_nilf cells_nilf flat_map one_map cells_map flat_nilm one_nilm cells_nilm flat_iface one_iface cells_iface flat_nili one_nili cells_nili flat_rd one_rd cells_rd flat_emp one_emp cells_emp flat_byteV one_byteV cells_byteV flat_agg cells_agg one_agg B_size B_list B_ext B_toList B_app List.take_length Int.le_refl
section
variable {H : AHeap} {K : AV → AHeap → Prop} {id n0 : Nat} {l s : List UInt8}
end
/-- The texts of a value. -/
def asTexts (v : List UInt8) : Option (List (List UInt8)) := if v ≠ [] ∧ v.getD (v.length - 1) 0 = 0 then some (splitA 0 [] (v.take (v.length - 1))) else none
def textsV (k : Nat) : Option (List (List UInt8)) → AV
  | some ls => .tup [slA k 1 (ls.map strV), .bool true]
  | none => .tup [.nils, .bool false]
theorem textsV_s (k : Nat) (ls : List (List UInt8)) : textsV k (some ls) = .tup [slA k 1 (ls.map strV), .bool true] := rfl
theorem textsV_n (k : Nat) : textsV k none = .tup [.nils, .bool false] := rfl
def asText (v : List UInt8) : Option (List UInt8) := match asTexts v with
  | some [t] => some t
  | _ => none
def textV : Option (List UInt8) → AV
  | some t => .tup [.str (B t), .bool true]
  | none => .tup [.str (B []), .bool false]
theorem last_drop {v : List UInt8} (h : v ≠ []) : v.drop (v.length - 1) = [v.getD (v.length - 1) 0] := by
  have hl := List.length_pos_iff.2 h
  rw [List.drop_eq_getElem_cons (by omega), List.getD_eq_getElem?_getD, List.getElem?_eq_getElem (by omega), List.drop_of_length_le (by omega)]
  rfl
section
variable {H : AHeap} {K : AV → AHeap → Prop}
theorem int_at {ls : List Int} {i : Nat} (h : i < ls.length) : (ls.map (AV.int .i64))[i]? = some (.int .i64 (ls.getD i 0)) := by
  rw [List.getElem?_map, List.getElem?_eq_getElem h, List.getD_eq_getElem?_getD, List.getElem?_eq_getElem h]
  rfl
theorem asTexts_a {v : List UInt8} (hl : v.length < 1073741824) (h : ∀ k, K (textsV k (asTexts v)) H) : (ACalls Tryz.prog) 179 [.str (B v)] H K := by
  refine acalls_go mo t179 (fun hs hu => ?_)
  simp only [c179, go_sem, Nat.reduceLeDiff, Nat.reduceAdd, Nat.reduceSub, Nat.reduceMul, Nat.reduceLT, Int.reduceLT, Int.reduceLE, Int.reduceAdd, Int.reduceSub, Int.reduceMul, Int.reduceToNat, Int.reduceNeg, Int.reduceEq, Nat.reducePow, Int.reducePow, Nat.reduceEqDiff, decide_true, decide_false, reduceIte, reduceCtorEq, Int.reduceBEq, Int.reduceBNe, bne_self_eq_false, Int.cast_ofNat_Int, Bool.not_true, Bool.not_false, IntKind.bits]
  refine cutSuf_a (by omega) (by decide) ?_
  rw [show ([0] : List UInt8).length = 1 from rfl]
  unfold asTexts at h
  by_cases h1 : v ≠ [] ∧ v.getD (v.length - 1) 0 = 0
  · have h2 : 1 ≤ v.length ∧ v.drop (v.length - 1) = [0] := ⟨List.length_pos_iff.2 h1.1, by rw [last_drop h1.1, h1.2]⟩
    rw [if_pos h1] at h
    rw [if_pos h2]
    refine stp0 ?_
    refine split_a (by rw [List.length_take]; omega) (fun k => ?_)
    have hx := h k
    rw [textsV_s] at hx
    refine stp0 ?_
    exact aret_u hs (hx)
  · have h2 : ¬ (1 ≤ v.length ∧ v.drop (v.length - 1) = [0]) := fun q => h1 (by
      have hv : v ≠ [] := List.length_pos_iff.1 q.1
      refine ⟨hv, ?_⟩
      rw [last_drop hv] at q
      simpa using q.2)
    rw [if_neg h1] at h
    rw [if_neg h2]
    have hx := h 0
    rw [textsV_n] at hx
    refine stp0 ?_
    exact aret_u hs (hx)
theorem asText_a {v : List UInt8} (hl : v.length < 1073741824) (h : K (textV (asText v)) H) : (ACalls Tryz.prog) 136 [.str (B v)] H K := by
  refine acalls_go mo t136 (fun hs hu => ?_)
  simp only [c136, go_sem, Nat.reduceLeDiff, Nat.reduceAdd, Nat.reduceSub, Nat.reduceMul, Nat.reduceLT, Int.reduceLT, Int.reduceLE, Int.reduceAdd, Int.reduceSub, Int.reduceMul, Int.reduceToNat, Int.reduceNeg, Int.reduceEq, Nat.reducePow, Int.reducePow, Nat.reduceEqDiff, decide_true, decide_false, reduceIte, reduceCtorEq, Int.reduceBEq, Int.reduceBNe, bne_self_eq_false, Int.cast_ofNat_Int, Bool.not_true, Bool.not_false, IntKind.bits]
  refine asTexts_a hl (fun k => ?_)
  unfold asText at h
  cases hm : asTexts v with
  | none =>
    rw [hm] at h
    have h : K (.tup [.str (B []), .bool false]) H := h
    rw [textsV_n]
    refine stp0 ?_
    exact aret_u hs (h)
  | some ls =>
    rw [hm] at h
    rw [textsV_s]
    match ls, h with
    | [], h =>
      have h : K (.tup [.str (B []), .bool false]) H := h
      refine stp0 ?_
      exact aret_u hs (h)
    | [t], h =>
      have h : K (.tup [.str (B t), .bool true]) H := h
      refine stp0 ?_
      exact aret_u hs (h)
    | a :: b :: ls, h =>
      have h : K (.tup [.str (B []), .bool false]) H := h
      have hn : ¬ (a :: b :: ls).length = 1 := by simp
      refine stp hn ?_
      exact aret_u hs (h)
end
section
variable {H : AHeap} {K : AV → AHeap → Prop}
end
section
variable {H : AHeap} {K : AV → AHeap → Prop}
def asNum (v : List UInt8) : AV := if v.length = 4 then .tup [.int .i64 (big v : Int), .bool true] else .tup [.int .i64 0, .bool false]
theorem asNum_a {v : List UInt8} (hl : v.length ≤ 100000) (h : K (asNum v) H) : (ACalls Tryz.prog) 122 [.str (B v)] H K := by
  refine acalls_go mo t122 (fun hs hu => ?_)
  unfold asNum at h
  simp only [c122, go_sem, Nat.reduceLeDiff, Nat.reduceAdd, Nat.reduceSub, Nat.reduceMul, Nat.reduceLT, Int.reduceLT, Int.reduceLE, Int.reduceAdd, Int.reduceSub, Int.reduceMul, Int.reduceToNat, Int.reduceNeg, Int.reduceEq, Nat.reducePow, Int.reducePow, Nat.reduceEqDiff, decide_true, decide_false, reduceIte, reduceCtorEq, Int.reduceBEq, Int.reduceBNe, bne_self_eq_false, Int.cast_ofNat_Int, Bool.not_true, Bool.not_false, IntKind.bits]
  by_cases h1 : v.length = 4
  · rw [if_pos h1] at h
    refine stp h1 ?_
    refine fromBig_a ?_
    unfold fromBig
    have e : v.take 4 = v := List.take_of_length_le (by omega)
    refine stp (And.intro h1 e) ?_
    exact aret_u hs (h)
  · rw [if_neg h1] at h
    refine stp h1 ?_
    exact aret_u hs (h)
theorem textV_is (x : Option (List UInt8)) : textV x = .tup [.str (B (x.getD [])), .bool x.isSome] := by cases x <;> rfl
end
end Go.Proofs.YtmdgjfadbhenjaaGreatDoor.AL
