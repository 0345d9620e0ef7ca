/- The code of package strs and its reference told, as the kernel evaluates it. -/
import Derived.Test.YtdknpnmdjjmapaaDoorQEditKeepsALA3
import Derived.Test.YtdknpnmdjjmapaaDoorProg
import Derived.KernelRfl
import Derived.Test.YtdknpnmdjjmapaaDoorQEditKeepsALPath3
set_option maxRecDepth 100000
namespace Go.Proofs.YtdknpnmdjjmapaaDoor.AL
open Go Go.Proofs
def c82 : ACode := 
    (.seq 
    (.region [⟨(some 2), (.q (.move (.const (.bool false)))), none⟩]) 
    (.seq 
    (.region [⟨(some 3), (.q (.move (.tmp 0))), none⟩, ⟨(some 4), (.q (.bin .neq (.tmp 3) (.const (.str (B []))))), none⟩, ⟨(some 5), (.q (.move (.tmp 4))), none⟩, ⟨(some 6), (.q (.move (.tmp 0))), (some (5, true))⟩, ⟨(some 7), (.q (.len true (.tmp 6))), (some (5, true))⟩, ⟨(some 8), (.q (.bin .leq (.tmp 7) (.const (.int .i64 31)))), (some (5, true))⟩, ⟨(some 9), (.q (.pick (.tmp 5) (.tmp 8) (.const (.bool false)))), none⟩, ⟨(some 10), (.q (.move (.tmp 9))), none⟩, ⟨(some 11), (.q (.move (.tmp 0))), (some (10, true))⟩, ⟨(some 12), (.s (.call 37 [(.tmp 11), (.const (.str (B [0])))])), (some (10, true))⟩, ⟨(some 13), (.q (.un .not (.tmp 12))), (some (10, true))⟩, ⟨(some 14), (.q (.pick (.tmp 10) (.tmp 13) (.const (.bool false)))), none⟩, ⟨(some 2), (.q (.move (.tmp 14))), none⟩]) .ret))
theorem t82 : Told Tryd.prog 82 15 c82 [(.tmp 2)] := ⟨Tryd.f82, _, [], Tryd.func82, rfl, by kernel_rfl, rfl, by kernel_rfl, by kernel_rfl⟩
def c68 : ACode := 
    (.seq 
    (.region [⟨(some 4), (.q (.move (.const (.int .i64 0)))), none⟩, ⟨(some 5), (.q (.move (.const (.int .i64 0)))), none⟩]) 
    (.seq 
    (.seq 
    (.region [⟨(some 8), (.q (.move (.tmp 0))), none⟩, ⟨(some 9), (.q (.nil .ptr false (.tmp 8) (.const .nilp))), none⟩, ⟨(some 10), (.q (.move (.tmp 9))), none⟩, ⟨(some 11), (.q (.move (.tmp 1))), (some (10, false))⟩, ⟨(some 12), (.s (.call 82 [(.tmp 11)])), (some (10, false))⟩, ⟨(some 13), (.q (.un .not (.tmp 12))), (some (10, false))⟩, ⟨(some 14), (.q (.pick (.tmp 10) (.const (.bool true)) (.tmp 13))), none⟩]) 
    (.cond (.tmp 14) 
    (.seq 
    (.region [⟨(some 4), (.q (.move (.const (.int .i64 0)))), none⟩, ⟨(some 5), (.q (.move (.const (.int .i64 1)))), none⟩]) .ret) .skip)) 
    (.seq 
    (.seq 
    (.region [⟨(some 16), (.q (.move (.tmp 0))), none⟩, ⟨(some 17), (.q (.nonil (.tmp 16))), none⟩, ⟨(some 18), (.q (.fieldAddr 1 (.tmp 17))), none⟩, ⟨(some 19), (.q (.load false 1 (.tmp 18))), none⟩, ⟨(some 20), (.q (.move (.tmp 1))), none⟩, ⟨(some 21), (.s (.lookup true (.int .i64 0) true (.tmp 19) (.tmp 20))), none⟩, ⟨(some 15), (.q (.move (.tmp 21))), none⟩, ⟨(some 22), (.q (.extract 0 (.tmp 15))), none⟩, ⟨(some 23), (.q (.extract 1 (.tmp 15))), none⟩, ⟨(some 6), (.q (.move (.tmp 22))), none⟩, ⟨(some 7), (.q (.move (.tmp 23))), none⟩]) 
    (.seq 
    (.region [⟨(some 24), (.q (.move (.tmp 7))), none⟩]) 
    (.cond (.tmp 24) 
    (.seq 
    (.region [⟨(some 25), (.q (.move (.tmp 6))), none⟩, ⟨(some 4), (.q (.move (.tmp 25))), none⟩, ⟨(some 5), (.q (.move (.const (.int .i64 0)))), none⟩]) .ret) .skip))) 
    (.seq 
    (.seq 
    (.region [⟨(some 26), (.q (.move (.tmp 0))), none⟩, ⟨(some 27), (.q (.nonil (.tmp 26))), none⟩, ⟨(some 28), (.q (.fieldAddr 1 (.tmp 27))), none⟩, ⟨(some 29), (.q (.load false 1 (.tmp 28))), none⟩, ⟨(some 30), (.q (.nil .map false (.tmp 29) (.const .nilm))), none⟩]) 
    (.cond (.tmp 30) 
    (.region [⟨(some 31), (.q (.move (.tmp 0))), none⟩, ⟨(some 32), (.s .mkmap), none⟩, ⟨(some 33), (.q (.nonil (.tmp 31))), none⟩, ⟨(some 34), (.q (.fieldAddr 1 (.tmp 33))), none⟩, ⟨none, (.s (.store 1 (.tmp 34) (.tmp 32))), none⟩]) .skip)) 
    (.seq 
    (.region [⟨(some 35), (.q (.move (.tmp 0))), none⟩, ⟨(some 36), (.q (.nonil (.tmp 35))), none⟩, ⟨(some 37), (.q (.fieldAddr 1 (.tmp 36))), none⟩, ⟨(some 38), (.q (.load false 1 (.tmp 37))), none⟩, ⟨(some 39), (.q (.move (.tmp 1))), none⟩, ⟨(some 40), (.q (.move (.tmp 0))), none⟩, ⟨(some 41), (.q (.nonil (.tmp 40))), none⟩, ⟨(some 42), (.q (.fieldAddr 0 (.tmp 41))), none⟩, ⟨(some 43), (.q (.load false 1 (.tmp 42))), none⟩, ⟨(some 44), (.q (.len true (.tmp 43))), none⟩, ⟨none, (.s (.mapup true (.tmp 38) (.tmp 39) (.tmp 44))), none⟩]) 
    (.seq 
    (.region [⟨(some 45), (.q (.move (.tmp 0))), none⟩, ⟨(some 46), (.q (.nonil (.tmp 45))), none⟩, ⟨(some 47), (.q (.fieldAddr 0 (.tmp 46))), none⟩, ⟨(some 48), (.q (.load false 1 (.tmp 47))), none⟩, ⟨(some 49), (.q (.move (.tmp 1))), none⟩, ⟨(some 50), (.q (.bin .add (.tmp 49) (.const (.str (B [0]))))), none⟩, ⟨(some 51), (.q (.bin .add (.tmp 48) (.tmp 50))), none⟩, ⟨(some 52), (.q (.nonil (.tmp 45))), none⟩, ⟨(some 53), (.q (.fieldAddr 0 (.tmp 52))), none⟩, ⟨none, (.s (.store 1 (.tmp 53) (.tmp 51))), none⟩]) 
    (.seq 
    (.region [⟨(some 54), (.q (.move (.tmp 0))), none⟩, ⟨(some 55), (.q (.nonil (.tmp 54))), none⟩, ⟨(some 56), (.q (.fieldAddr 1 (.tmp 55))), none⟩, ⟨(some 57), (.q (.load false 1 (.tmp 56))), none⟩, ⟨(some 58), (.q (.move (.tmp 1))), none⟩, ⟨(some 59), (.s (.lookup true (.int .i64 0) false (.tmp 57) (.tmp 58))), none⟩, ⟨(some 4), (.q (.move (.tmp 59))), none⟩, ⟨(some 5), (.q (.move (.const (.int .i64 0)))), none⟩]) .ret)))))))
theorem t68 : Told Tryd.prog 68 60 c68 [(.tmp 4), (.tmp 5)] := ⟨Tryd.f68, _, [], Tryd.func68, rfl, by kernel_rfl, rfl, by kernel_rfl, by kernel_rfl⟩
def c69 : ACode := 
    (.seq 
    (.region [⟨(some 2), (.q (.move (.const (.str (B []))))), none⟩]) 
    (.seq 
    (.seq 
    (.region [⟨(some 3), (.q (.move (.tmp 0))), none⟩, ⟨(some 4), (.q (.nil .ptr false (.tmp 3) (.const .nilp))), none⟩]) 
    (.cond (.tmp 4) 
    (.seq 
    (.region [⟨(some 2), (.q (.move (.const (.str (B []))))), none⟩]) .ret) .skip)) 
    (.seq 
    (.region [⟨(some 5), (.q (.move (.tmp 0))), none⟩, ⟨(some 6), (.q (.nonil (.tmp 5))), none⟩, ⟨(some 7), (.q (.fieldAddr 0 (.tmp 6))), none⟩, ⟨(some 8), (.q (.load false 1 (.tmp 7))), none⟩, ⟨(some 2), (.q (.move (.tmp 8))), none⟩]) .ret)))
theorem t69 : Told Tryd.prog 69 9 c69 [(.tmp 2)] := ⟨Tryd.f69, _, [], Tryd.func69, rfl, by kernel_rfl, rfl, by kernel_rfl, by kernel_rfl⟩
def c54 : ACode := 
    (.seq 
    (.region [⟨(some 2), (.q (.move (.const .nils))), none⟩, ⟨(some 3), (.q (.move (.const (.str (B []))))), none⟩, ⟨(some 4), (.q (.move (.const (.int .i64 0)))), none⟩]) 
    (.seq 
    (.region [⟨(some 5), (.s (.alloc 93 [(.str (B [])), .nilm])), none⟩]) 
    (.seq 
    (.region [⟨(some 6), (.q (.move (.const .nils))), none⟩]) 
    (.seq 
    (.seq 
    (.region [⟨(some 11), (.q (.move (.tmp 0))), none⟩, ⟨(some 12), (.q (.len false (.tmp 11))), none⟩, ⟨(some 13), (.q (.move (.const (.int .i64 0)))), none⟩]) 
    (.block 0 
    (.loop 
    (.seq 
    (.region [⟨(some 14), (.q (.bin .lss (.tmp 13) (.tmp 12))), none⟩]) 
    (.seq 
    (.cond (.tmp 14) .skip (.exit 0)) 
    (.seq 
    (.block 1 
    (.seq 
    (.region [⟨(some 15), (.q (.idxSl 1 (.tmp 11) (.tmp 13))), none⟩, ⟨(some 16), (.q (.load false 1 (.tmp 15))), none⟩, ⟨(some 8), (.q (.move (.tmp 16))), none⟩]) 
    (.seq 
    (.region [⟨(some 18), (.q (.move (.tmp 8))), none⟩, ⟨(some 19), (.s (.call 68 [(.tmp 5), (.tmp 18)])), none⟩, ⟨(some 17), (.q (.move (.tmp 19))), none⟩, ⟨(some 20), (.q (.extract 0 (.tmp 17))), none⟩, ⟨(some 21), (.q (.extract 1 (.tmp 17))), none⟩, ⟨(some 9), (.q (.move (.tmp 20))), none⟩, ⟨(some 10), (.q (.move (.tmp 21))), none⟩]) 
    (.seq 
    (.seq 
    (.region [⟨(some 22), (.q (.move (.tmp 10))), none⟩, ⟨(some 23), (.q (.bin .neq (.tmp 22) (.const (.int .i64 0)))), none⟩]) 
    (.cond (.tmp 23) 
    (.seq 
    (.region [⟨(some 24), (.q (.move (.tmp 10))), none⟩, ⟨(some 2), (.q (.move (.const .nils))), none⟩, ⟨(some 3), (.q (.move (.const (.str (B []))))), none⟩, ⟨(some 4), (.q (.move (.tmp 24))), none⟩]) .ret) .skip)) 
    (.region [⟨(some 25), (.q (.move (.tmp 6))), none⟩, ⟨(some 26), (.q (.move (.tmp 9))), none⟩, ⟨(some 27), (.s (.lit 3 1 [(.tmp 26)])), none⟩, ⟨(some 28), (.s (.app 3 1 8 (.tmp 25) (.tmp 27))), none⟩, ⟨(some 6), (.q (.move (.tmp 28))), none⟩]))))) 
    (.region [⟨(some 29), (.q (.bin .add (.tmp 13) (.const (.int .i64 1)))), none⟩, ⟨(some 13), (.q (.move (.tmp 29))), none⟩]))))))) 
    (.seq 
    (.region [⟨(some 30), (.q (.move (.tmp 6))), none⟩, ⟨(some 31), (.s (.call 69 [(.tmp 5)])), none⟩, ⟨(some 2), (.q (.move (.tmp 30))), none⟩, ⟨(some 3), (.q (.move (.tmp 31))), none⟩, ⟨(some 4), (.q (.move (.const (.int .i64 0)))), none⟩]) .ret)))))
theorem t54 : Told Tryd.prog 54 32 c54 [(.tmp 2), (.tmp 3), (.tmp 4)] := ⟨Tryd.f54, _, [], Tryd.func54, rfl, by kernel_rfl, rfl, by kernel_rfl, by kernel_rfl⟩
set_option linter.unusedSimpArgs false
set_option linter.unusedVariables false
attribute [local go_sem] go_seq go_skip go_region go_regionN go_fregion rgF_some go_cond go_block go_exit go_ret nxt_nil nxt_code nxt_blk nxt_cut leave_nil leave_code leave_cut leave_blk rtn_nil rtn_code rtn_blk rtn_cut cnd_t cnd_f rgn_nil rgY_some rgY_none rgH_some rgP_some retTo_is rgV_func grd_und grd_tt grd_ff grd_tf grd_ft rgn_q rgn_alloc rgn_box rgn_store rgn_lit rgn_litw litCells_nil litCells_cons rgn_app rgn_copy rgn_mk rgn_s2b rgn_call rgn_callv rgn_stop rgn_slice3 aslice3 rgn_slice3l aslice3l rgn_appz rgn_clear rgn_range rgn_next arange acap rgn_put rgn_mkmap rgn_lookup rgn_mapup alookup_nilm alookup_map amapup_map afound_ok afound_no rgn_c rgn_cv qclV_func aloadr rgn_guard post_ret post_normal retY_some ares aresL ares1 AX.ev aput List.getD_cons_zero List.getD_cons_succ List.set_cons_zero List.set_cons_succ List.map_cons List.map_nil aq abin aint astr abeq aconv asame aextract alenS alenL_nils alenL_emp alenL_imm alenL_wr alenL_wc aun apart aload afieldAddr afield aidxSl_wr aidxSl_wc aidxSl_imm aidxPt aidxStr aidxArr abound asliceStr asliceSl asliceArr abest anonil afill astore acells_nils acells_emp acells_imm acells_wr acells_wc acells_str acopy litAll amk as2b anil nilOf aseq aeqs aeqv fits fit1 hp_next hp_push hp_get hp_set List.length_cons List.length_nil List.getElem?_cons_zero List.getElem?_cons_succ List.cons_append List.nil_append List.append_nil List.take_succ_cons List.take_zero List.drop_succ_cons List.drop_zero List.all_cons List.all_nil Option.map_some Option.some.injEq Bool.and_true Bool.true_and Bool.false_eq_true if_true if_false ite_true ite_false Bool.and_self true_and and_true and_self Nat.zero_add Nat.le_refl Int.toNat_natCast beq_self_eq_true eq_self tops_zero tops_succ Int.natCast_nonneg List.take_nil List.drop_nil Option.map_none flat_bool one_bool cells_bool flat_int one_int cells_int flat_str one_str cells_str flat_nilp one_nilp cells_nilp flat_ptr one_ptr cells_ptr flat_nils one_nils cells_nils flat_imm one_imm cells_imm flat_wr one_wr cells_wr flat_wc one_wc cells_wc flat_func one_func cells_func flat_nilf one_nilf cells_nilf flat_map one_map cells_map flat_nilm one_nilm cells_nilm flat_iface one_iface cells_iface flat_nili one_nili cells_nili flat_rd one_rd cells_rd flat_emp one_emp cells_emp flat_byteV one_byteV cells_byteV flat_agg cells_agg one_agg B_size B_list B_ext B_toList B_app List.take_length Int.le_refl
def mayL (s : List UInt8) : Bool := !decide (s = []) && decide (s.length ≤ 31) && !(cut1 0 s).2.2
/-- Texts, each ended by a byte 0. -/
def txt (ts : List (List UInt8)) : List UInt8 := (ts.map (· ++ [0])).flatten
def offT (s : List UInt8) : Nat → List (List UInt8) → Option Nat
  | _, [] => none
  | o, t :: ts => if s = t then some o else offT s (o + (t.length + 1)) ts
def ents : Nat → List (List UInt8) → List (AV × AV)
  | _, [] => []
  | o, t :: ts => (strV t, .int .i64 (o : Int)) :: ents (o + (t.length + 1)) ts
theorem txt_snoc (ts : List (List UInt8)) (s : List UInt8) : txt (ts ++ [s]) = txt ts ++ (s ++ [0]) := by simp [txt]
theorem txt_cons (ts : List (List UInt8)) (s : List UInt8) : txt (s :: ts) = s ++ 0 :: txt ts := by simp [txt]
theorem akey_str (s t : List UInt8) : akey true (strV s) (strV t) = some (decide (s = t)) := rfl
theorem ents_get (s : List UInt8) : ∀ (ts : List (List UInt8)) (o : Nat), amget true (.str (B s)) (ents o ts) = some ((offT s o ts).map fun n => .int .i64 (n : Int))
  | [], _ => rfl
  | t :: ts, o => by
    simp only [ents, amget, offT, ← strV_is, akey_str]
    by_cases h : s = t
    · simp [h]
    · simp only [h, decide_false, if_false]
      exact ents_get s ts _
theorem ents_set (s : List UInt8) (n : Nat) : ∀ (ts : List (List UInt8)) (o : Nat), offT s o ts = none → n = o + (txt ts).length → amset true (.str (B s)) (.int .i64 (n : Int)) (ents o ts) = some (ents o (ts ++ [s]))
  | [], o, _, hn => by
    obtain rfl : n = o := by simpa [txt] using hn
    rfl
  | t :: ts, o, h, hn => by
    by_cases hst : s = t
    · simp [offT, hst] at h
    · simp only [offT, if_neg hst] at h
      have := ents_set s n ts (o + (t.length + 1)) h (by rw [hn, txt_cons]; simp; omega)
      rw [← strV_is] at this
      simp only [ents, amset, ← strV_is, akey_str, hst, decide_false, List.cons_append, this, Option.map_some]
theorem offT_snoc (s : List UInt8) : ∀ (ts : List (List UInt8)) (o : Nat), offT s o ts = none → offT s o (ts ++ [s]) = some (o + (txt ts).length)
  | [], o, _ => by simp [offT, txt]
  | t :: ts, o, h => by
    by_cases hst : s = t
    · simp [offT, hst] at h
    · simp only [offT, if_neg hst] at h
      rw [List.cons_append, offT, if_neg hst, offT_snoc s ts _ h, txt_cons]
      simp
      omega
theorem may_a {s : List UInt8} {H : AHeap} {K : AV → AHeap → Prop} (h : K (.bool (mayL s)) H) : (ACalls Tryd.prog) 82 [.str (B s)] H K := by
  refine acalls_go mo t82 (fun hs hu => ?_)
  simp only [c82, go_sem, Nat.reduceLeDiff, Nat.reduceAdd, Nat.reduceSub, Nat.reduceMul, Nat.reduceLT, Int.reduceLT, Int.reduceLE, Int.reduceAdd, Int.reduceSub, Int.reduceMul, Int.reduceToNat, Int.reduceNeg, Int.reduceEq, Nat.reducePow, Int.reducePow, Nat.reduceEqDiff, decide_true, decide_false, reduceIte, reduceCtorEq, Int.reduceBEq, Int.reduceBNe, bne_self_eq_false, Int.cast_ofNat_Int, Bool.not_true, Bool.not_false, IntKind.bits]
  unfold mayL at h
  by_cases h1 : s = []
  · subst h1
    refine stp0 ?_
    exact aret_u hs (h)
  by_cases h2 : s.length ≤ 31
  · rw [decide_eq_false h1, decide_eq_true h2] at h
    refine stp0 ?_
    refine contains_a ?_
    refine stp0 ?_
    exact aret_u hs (h)
  · rw [decide_eq_false h1, decide_eq_false h2] at h
    refine stp0 ?_
    exact aret_u hs (h)
theorem ents_under (n : Nat) : ∀ (ts : List (List UInt8)) (o : Nat), (AObj.map (ents o ts)).under n
  | [], _ => fun e he => by simp [ents] at he
  | t :: ts, o => fun e he => by
    rcases List.mem_cons.1 he with rfl | he
    · exact ⟨.str _, .int _ _⟩
    · exact ents_under n ts _ e he
theorem under_up {n m : Nat} (hnm : n ≤ m) {y : AV} (h : y.under n) : y.under m := by
  induction h with
  | ptr id g o hid => exact .ptr _ _ _ (by omega)
  | wr id g o l z hid => exact .wr _ _ _ _ _ (by omega)
  | wc id g o l c z hid => exact .wc _ _ _ _ _ _ (by omega)
  | map id hid => exact .map _ (by omega)
  | imm sz xs _ ih => exact .imm _ _ ih
  | func fn fs cs _ _ ih1 ih2 => exact .func _ _ _ ih1 ih2
  | iface t y _ ih => exact .iface _ _ ih
  | agg cs _ ih => exact .agg _ ih
  | tup cs _ ih => exact .tup _ ih
  | rd cs _ ih => exact .rd _ ih
  | _ => constructor
theorem objUnder_up {n m : Nat} (hnm : n ≤ m) {o : AObj} (h : o.under n) : o.under m := by
  cases o with
  | row e g cs => exact fun c hc => under_up hnm (h c hc)
  | map es => exact fun e he => ⟨under_up hnm (h e he).1, under_up hnm (h e he).2⟩
  | iter s pos => exact trivial
/-- All rows stay. -/
theorem aret_all {n : Nat} {K : AV → AHeap → Prop} {y : AV} {H : AHeap} (hn : n ≤ H.next) (hw : H.within H.next) (hy : y.under H.next) (hk : K y H) : ARet n K y H :=
  ⟨H, y, H.next, .refl _ _, hn, hy, hw, by rw [trunc_self]; exact hk⟩
def retE (n e : Int) : AV := .tup [.int .i64 n, .int .i64 e]
theorem add_bad {s : List UInt8} {id gen off : Nat} {H : AHeap} {K : AV → AHeap → Prop} (hm : mayL s = false) (h : K (retE 0 1) H) : (ACalls Tryd.prog) 68 [.ptr id gen off, .str (B s)] H K := by
  refine acalls_go mo t68 (fun hs hu => ?_)
  simp only [c68, go_sem, Nat.reduceLeDiff, Nat.reduceAdd, Nat.reduceSub, Nat.reduceMul, Nat.reduceLT, Int.reduceLT, Int.reduceLE, Int.reduceAdd, Int.reduceSub, Int.reduceMul, Int.reduceToNat, Int.reduceNeg, Int.reduceEq, Nat.reducePow, Int.reducePow, Nat.reduceEqDiff, decide_true, decide_false, reduceIte, reduceCtorEq, Int.reduceBEq, Int.reduceBNe, bne_self_eq_false, Int.cast_ofNat_Int, Bool.not_true, Bool.not_false, IntKind.bits]
  refine may_a ?_
  rw [hm]
  refine stp0 ?_
  exact aret_u hs (h)
theorem add_found {s : List UInt8} {ts : List (List UInt8)} {id gen id2 o : Nat} {e : TypeId} {x : AV} {H : AHeap} {K : AV → AHeap → Prop} (hm : mayL s = true) (hg : H.get id = some (.row e gen [x, .map id2])) (hg2 : H.get id2 = some (.map (ents 0 ts))) (ho : offT s 0 ts = some o) (h : K (retE o 0) H) : (ACalls Tryd.prog) 68 [.ptr id gen 0, .str (B s)] H K := by
  refine acalls_go mo t68 (fun hs hu => ?_)
  have hlt := H.lt hg
  have hlt2 := H.lt hg2
  simp only [c68, go_sem, Nat.reduceLeDiff, Nat.reduceAdd, Nat.reduceSub, Nat.reduceMul, Nat.reduceLT, Int.reduceLT, Int.reduceLE, Int.reduceAdd, Int.reduceSub, Int.reduceMul, Int.reduceToNat, Int.reduceNeg, Int.reduceEq, Nat.reducePow, Int.reducePow, Nat.reduceEqDiff, decide_true, decide_false, reduceIte, reduceCtorEq, Int.reduceBEq, Int.reduceBNe, bne_self_eq_false, Int.cast_ofNat_Int, Bool.not_true, Bool.not_false, IntKind.bits]
  refine may_a ?_
  rw [hm]
  refine stp (And.intro hg (And.intro hg2 (And.intro @ents_get ho))) ?_
  exact aret_u hs (h)
theorem add_new {s : List UInt8} {ts : List (List UInt8)} {id gen id2 : Nat} {e : TypeId} {H : AHeap} {K : AV → AHeap → Prop} (hm : mayL s = true) (hg : H.get id = some (.row e gen [.str (B (txt ts)), .map id2])) (hg2 : H.get id2 = some (.map (ents 0 ts))) (ho : offT s 0 ts = none) (hl : (txt ts).length ≤ 100000) (hsl : s.length ≤ 1000)
    (h : K (retE (txt ts).length 0) ((H.set id2 (.map (ents 0 (ts ++ [s])))).set id (.row e gen [.str (B (txt (ts ++ [s]))), .map id2]))) : (ACalls Tryd.prog) 68 [.ptr id gen 0, .str (B s)] H K := by
  refine acalls_go mo t68 (fun hs hu => ?_)
  have hlt := H.lt hg
  have hlt2 := H.lt hg2
  have hne : id ≠ id2 := by rintro rfl; rw [hg] at hg2; cases hg2
  have hset := ents_set s (txt ts).length ts 0 ho (by omega)
  have hfin := offT_snoc s ts 0 ho
  rw [Nat.zero_add] at hfin
  simp only [c68, go_sem, Nat.reduceLeDiff, Nat.reduceAdd, Nat.reduceSub, Nat.reduceMul, Nat.reduceLT, Int.reduceLT, Int.reduceLE, Int.reduceAdd, Int.reduceSub, Int.reduceMul, Int.reduceToNat, Int.reduceNeg, Int.reduceEq, Nat.reducePow, Int.reducePow, Nat.reduceEqDiff, decide_true, decide_false, reduceIte, reduceCtorEq, Int.reduceBEq, Int.reduceBNe, bne_self_eq_false, Int.cast_ofNat_Int, Bool.not_true, Bool.not_false, IntKind.bits]
  refine may_a ?_
  rw [hm]
  refine stp (And.intro hg (And.intro hg2 (And.intro @ents_get (And.intro ho (And.intro hset hfin))))) ?_
  rw [txt_snoc] at h
  refine aret_old rfl (within_setO (within_setO hs (ents_under _ _ _)) ?_) (by simp only [u_top, u_bool, u_int, u_str, u_nilp, u_nils, u_nilf, u_nilm, u_nili, u_emp, u_byteV, u_ptr, u_wr, u_wc, u_agg, u_tup, u_rd, u_imm, u_func, u_nil, u_cons, u_app, uc_nil, uc_cons, uc_app, u_bytes, uc_bytes, u_ints, uc_ints, cells_bool, cells_int, cells_str, cells_agg, cells_ptr, cells_nils, cells_imm, cells_wr, cells_wc, cells_nilp, cells_nilf, cells_nilm, cells_rd, cells_emp, cells_byteV, cells_func, and_self, and_true, true_and, u_slA, uc_strs, cells_slA, strV_is]) h
  show AllU _ _
  have hlt3 : id2 < H.next := hlt2
  simp only [u_cons, u_str, u_nil, and_true, true_and]
  exact .map _ hlt2
theorem add_first {s : List UInt8} {id gen : Nat} {e : TypeId} {H : AHeap} {K : AV → AHeap → Prop} (hm : mayL s = true) (hg : H.get id = some (.row e gen [.str (B []), .nilm])) (hsl : s.length ≤ 1000)
    (h : K (retE 0 0) (hp (H.set id (.row e gen [.str (B (txt [s])), .map H.next])) [.map (ents 0 [s])])) : (ACalls Tryd.prog) 68 [.ptr id gen 0, .str (B s)] H K := by
  refine acalls_go mo t68 (fun hs hu => ?_)
  have hlt := H.lt hg
  have hset := ents_set s 0 [] 0 rfl rfl
  have hfin := offT_snoc s [] 0 rfl
  simp only [c68, go_sem, Nat.reduceLeDiff, Nat.reduceAdd, Nat.reduceSub, Nat.reduceMul, Nat.reduceLT, Int.reduceLT, Int.reduceLE, Int.reduceAdd, Int.reduceSub, Int.reduceMul, Int.reduceToNat, Int.reduceNeg, Int.reduceEq, Nat.reducePow, Int.reducePow, Nat.reduceEqDiff, decide_true, decide_false, reduceIte, reduceCtorEq, Int.reduceBEq, Int.reduceBNe, bne_self_eq_false, Int.cast_ofNat_Int, Bool.not_true, Bool.not_false, IntKind.bits]
  refine may_a ?_
  rw [hm]
  have he0 : amset true (.str (B s)) (.int .i64 0) [] = some (ents 0 [s]) := rfl
  have he1 : amget true (.str (B s)) (ents 0 [s]) = some (some (.int .i64 0)) := by rw [ents_get]; simp [offT]
  refine stp (And.intro hg (And.intro he0 he1)) ?_
  have htx : txt [s] = s ++ [0] := by simp [txt]
  rw [htx] at h
  refine aret_all (by rw [hp_next]; exact Nat.le_add_right _ _) (within_hp (fun o ho => ?_) (fun i o hi ho => ?_)) (by simp only [u_top, u_bool, u_int, u_str, u_nilp, u_nils, u_nilf, u_nilm, u_nili, u_emp, u_byteV, u_ptr, u_wr, u_wc, u_agg, u_tup, u_rd, u_imm, u_func, u_nil, u_cons, u_app, uc_nil, uc_cons, uc_app, u_bytes, uc_bytes, u_ints, uc_ints, cells_bool, cells_int, cells_str, cells_agg, cells_ptr, cells_nils, cells_imm, cells_wr, cells_wc, cells_nilp, cells_nilf, cells_nilm, cells_rd, cells_emp, cells_byteV, cells_func, and_self, and_true, true_and, u_slA, uc_strs, cells_slA, strV_is]) h
  · obtain rfl := List.mem_singleton.1 ho
    exact ents_under _ _ _
  · simp only [AHeap.set] at ho
    split at ho
    · obtain rfl := Option.some.inj ho
      show AllU _ _
      simp only [u_cons, u_str, u_nil, and_true, true_and]
      exact .map _ (Nat.lt_succ_self _)
    · exact objUnder_up (Nat.le_add_right _ _) (hs i o hi ho)
theorem bytes_a {id gen : Nat} {e : TypeId} {s : ByteArray} {x : AV} {H : AHeap} {K : AV → AHeap → Prop} (hg : H.get id = some (.row e gen [.str s, x])) (h : K (.str s) H) : (ACalls Tryd.prog) 69 [.ptr id gen 0] H K := by
  refine acalls_go mo t69 (fun hs hu => ?_)
  have hlt := H.lt hg
  simp only [c69, go_sem, Nat.reduceLeDiff, Nat.reduceAdd, Nat.reduceSub, Nat.reduceMul, Nat.reduceLT, Int.reduceLT, Int.reduceLE, Int.reduceAdd, Int.reduceSub, Int.reduceMul, Int.reduceToNat, Int.reduceNeg, Int.reduceEq, Nat.reducePow, Int.reducePow, Nat.reduceEqDiff, decide_true, decide_false, reduceIte, reduceCtorEq, Int.reduceBEq, Int.reduceBNe, bne_self_eq_false, Int.cast_ofNat_Int, Bool.not_true, Bool.not_false, IntKind.bits]
  refine stp hg ?_
  exact aret_u hs (h)
def stepO (x : Option (List Int × List (List UInt8))) (s : List UInt8) : Option (List Int × List (List UInt8)) :=
  x.bind fun x => if mayL s = true then some (x.1 ++ [(((offT s 0 x.2).getD (txt x.2).length : Nat) : Int)], if (offT s 0 x.2).isSome = true then x.2 else x.2 ++ [s]) else none
def offsetsL (ls : List (List UInt8)) : Option (List Int × List (List UInt8)) := ls.foldl stepO (some ([], []))
theorem offsetsL_snoc (p : List (List UInt8)) (s : List UInt8) : offsetsL (p ++ [s]) = stepO (offsetsL p) s := by simp [offsetsL, List.foldl_append]
theorem stepO_none : ∀ (ls : List (List UInt8)), ls.foldl stepO none = none
  | [] => rfl
  | s :: ls => stepO_none ls
theorem offsetsL_stop {p q : List (List UInt8)} {s : List UInt8} (h : mayL s = false) : offsetsL (p ++ s :: q) = none := by
  unfold offsetsL
  rw [List.foldl_append, List.foldl_cons]
  have : stepO (List.foldl stepO (some ([], [])) p) s = none := by
    unfold stepO
    cases List.foldl _ _ p with
    | none => rfl
    | some x => simp [h]
  rw [this, stepO_none]
def offV (x : Option (List Int × List (List UInt8))) : AV := match x with
  | none => .tup [.nils, .str (B []), .int .i64 1]
  | some (os, ts) => .tup [slA 0 1 (os.map (AV.int .i64)), .str (B (txt ts)), .int .i64 0]
/-- The rows while texts are added. -/
def offH (os : List Int) (ts : List (List UInt8)) (n : Nat) : List AObj := match os with
  | [] => [.row 93 0 [.str (B []), .nilm]]
  | o :: os => [.row 93 0 [.str (B (txt ts)), .map (n + 1)], .map (ents 0 ts), .row 3 os.length ((o :: os).map (AV.int .i64))]
def offS (os : List Int) (n : Nat) : AV := match os with
  | [] => .nils
  | o :: os => .wr n os.length 0 (os.length + 1) 1
theorem offsets_a {k : Nat} {ls : List (List UInt8)} (hl : (txt ls).length ≤ 100000) (hk : ls.length ≤ 10000) (hsz : ∀ s ∈ ls, s.length ≤ 1000) {H : AHeap} {K : AV → AHeap → Prop} (h : K (offV (offsetsL ls)) H) : (ACalls Tryd.prog) 54 [slA k 1 (ls.map strV)] H K := by
  refine acalls_go mo t54 (fun hs hu => ?_)
  simp only [c54, go_sem, Nat.reduceLeDiff, Nat.reduceAdd, Nat.reduceSub, Nat.reduceMul, Nat.reduceLT, Int.reduceLT, Int.reduceLE, Int.reduceAdd, Int.reduceSub, Int.reduceMul, Int.reduceToNat, Int.reduceNeg, Int.reduceEq, Nat.reducePow, Int.reducePow, Nat.reduceEqDiff, decide_true, decide_false, reduceIte, reduceCtorEq, Int.reduceBEq, Int.reduceBNe, bne_self_eq_false, Int.cast_ofNat_Int, Bool.not_true, Bool.not_false, IntKind.bits]
  refine stp0 ?_
  refine go_loopS mono (σ := (List (List UInt8) × List (List UInt8)) × (List Int × List (List UInt8))) (fun s => [(6, offS s.2.1 (H.next + 2)), (13, .int .i64 (s.1.1.length : Int))]) (fun s => hp H (offH s.2.1 s.2.2 H.next)) (fun s => s.1.1 ++ s.1.2 = ls ∧ offsetsL s.1.1 = some s.2 ∧ (s.2.1 = [] ↔ s.2.2 = []) ∧ (txt s.2.2).length ≤ (txt s.1.1).length ∧ s.2.1.length = s.1.1.length) (fun s => s.1.2.length) (([], ls), ([], [])) ?_ ?_ ⟨rfl, rfl, by simp, by simp [txt], rfl⟩ (fun x hx J hJ => ?_)
  · exact fgt
  · rfl
  obtain ⟨⟨p, q⟩, os, ts⟩ := x
  simp only at hx hJ ⊢
  obtain ⟨hpq, hof, hnil, htx, hol⟩ := hx
  have hlen : ls.length = p.length + q.length := by rw [← hpq]; simp
  simp only [blurR_nil, blurR_some, blurR_none, blurC_region, blurC_regionN, blurC_fregion, blurT_nil, blurT_cons, blurC_seq, blurC_both, blurC_cond, blurC_block, blurC_loop, blurC_skip, blurC_exit, blurC_ret, tellS_nil, tellS_cons, List.set_cons_zero, List.set_cons_succ, tops_zero, tops_succ]
  rcases q with _ | ⟨t, q⟩
  · rw [List.append_nil] at hpq
    subst hpq
    rw [hof] at h
    simp only [List.length_nil] at hlen
    cases os with
    | nil =>
      obtain rfl := hnil.1 rfl
      simp (maxSteps := 4000000) (disch := (first | omega | (simp only [set_next, List.length_append, List.length_cons, List.length_nil, List.length_take, List.length_drop, List.length_map, List.length_set, List.length_replicate]; omega) | (simp only [set_next, ne_eq, reduceCtorEq, not_false_eq_true]))) only [offH, offS, go_sem, Nat.reduceLeDiff, Nat.reduceAdd, Nat.reduceSub, Nat.reduceMul, Nat.reduceLT, Int.reduceLT, Int.reduceLE, Int.reduceAdd, Int.reduceSub, Int.reduceMul, Int.reduceToNat, Int.reduceNeg, Int.reduceEq, Nat.reducePow, Int.reducePow, Nat.reduceEqDiff, decide_true, decide_false, reduceIte, reduceCtorEq, Int.reduceBEq, Int.reduceBNe, bne_self_eq_false, Int.cast_ofNat_Int, Bool.not_true, Bool.not_false, IntKind.bits, w_nat, w_lit, w_add, w_addl, w_ladd, w_sub, w_subl, w_lsub, w_mul, w_mull, w_lmul, t_div, t_divl, t_mod, t_modl, i_lt, i_ltl, i_llt, i_le, i_lel, i_lle, i_eq, i_eql, i_leq, Nat.zero_le, d_beq, d_bne, d_bytes, byte_at, Int.toNat_natCast, toNat_lit, decide_eq_true, decide_eq_false, if_pos, if_neg, slA_len, slA_idx, slA_cells, flat_slA, one_slA, cells_slA, map_mid, strV_is, hp_get1, hp_get2, hp_get3, hp_set1, hp_set2, hp_set3, hp_old, hp_sold, set_got, set_set, set_next, set_other, bytesL, bytes_all, List.length_map, aapp_nils, aapp_wr, List.flatMap_cons, List.flatMap_nil, Nat.mul_one]
      refine bytes_a (hp_get _ _ _) ?_
      refine stp0 ?_
      exact aret_u hs (h)
    | cons o os =>
      simp (maxSteps := 4000000) (disch := (first | omega | (simp only [set_next, List.length_append, List.length_cons, List.length_nil, List.length_take, List.length_drop, List.length_map, List.length_set, List.length_replicate]; omega) | (simp only [set_next, ne_eq, reduceCtorEq, not_false_eq_true]))) only [offH, offS, go_sem, Nat.reduceLeDiff, Nat.reduceAdd, Nat.reduceSub, Nat.reduceMul, Nat.reduceLT, Int.reduceLT, Int.reduceLE, Int.reduceAdd, Int.reduceSub, Int.reduceMul, Int.reduceToNat, Int.reduceNeg, Int.reduceEq, Nat.reducePow, Int.reducePow, Nat.reduceEqDiff, decide_true, decide_false, reduceIte, reduceCtorEq, Int.reduceBEq, Int.reduceBNe, bne_self_eq_false, Int.cast_ofNat_Int, Bool.not_true, Bool.not_false, IntKind.bits, w_nat, w_lit, w_add, w_addl, w_ladd, w_sub, w_subl, w_lsub, w_mul, w_mull, w_lmul, t_div, t_divl, t_mod, t_modl, i_lt, i_ltl, i_llt, i_le, i_lel, i_lle, i_eq, i_eql, i_leq, Nat.zero_le, d_beq, d_bne, d_bytes, byte_at, Int.toNat_natCast, toNat_lit, decide_eq_true, decide_eq_false, if_pos, if_neg, slA_len, slA_idx, slA_cells, flat_slA, one_slA, cells_slA, map_mid, strV_is, hp_get1, hp_get2, hp_get3, hp_set1, hp_set2, hp_set3, hp_old, hp_sold, set_got, set_set, set_next, set_other, bytesL, bytes_all, List.length_map, aapp_nils, aapp_wr, List.flatMap_cons, List.flatMap_nil, Nat.mul_one]
      refine bytes_a (hp_get _ _ _) ?_
      refine stp0 ?_
      exact aret_tupw [] [_, _] ((o :: os).map (AV.int .i64)) rfl (fun x hx => by obtain ⟨a, _, rfl⟩ := List.mem_map.1 hx; rfl) (by simp) (by rw [ints_flat]; rfl) hs (by simp only [List.nil_append, u_top, u_bool, u_int, u_str, u_nilp, u_nils, u_nilf, u_nilm, u_nili, u_emp, u_byteV, u_ptr, u_wr, u_wc, u_agg, u_tup, u_rd, u_imm, u_func, u_nil, u_cons, u_app, uc_nil, uc_cons, uc_app, u_bytes, uc_bytes, u_ints, uc_ints, cells_bool, cells_int, cells_str, cells_agg, cells_ptr, cells_nils, cells_imm, cells_wr, cells_wc, cells_nilp, cells_nilf, cells_nilm, cells_rd, cells_emp, cells_byteV, cells_func, and_self, and_true, true_and, u_slA, uc_strs, cells_slA, strV_is]) h
  · have e1 : (ls.map strV)[p.length]? = some (strV t) := by rw [← hpq, map_mid]
    simp only [List.length_cons] at hlen
    have htl := hsz t (by rw [← hpq]; simp)
    cases hm : mayL t with
    | false =>
      have hbad := offsetsL_stop (p := p) (q := q) hm
      rw [hpq] at hbad
      rw [hbad] at h
      refine stp e1 ?_
      refine add_bad hm ?_
      unfold retE
      refine stp0 ?_
      exact aret_u hs (h)
    | true =>
      cases os with
      | nil =>
        obtain rfl := hnil.1 rfl
        simp (maxSteps := 4000000) (disch := (first | omega | (simp only [set_next, List.length_append, List.length_cons, List.length_nil, List.length_take, List.length_drop, List.length_map, List.length_set, List.length_replicate]; omega) | (simp only [set_next, ne_eq, reduceCtorEq, not_false_eq_true]))) only [e1, offH, offS, go_sem, Nat.reduceLeDiff, Nat.reduceAdd, Nat.reduceSub, Nat.reduceMul, Nat.reduceLT, Int.reduceLT, Int.reduceLE, Int.reduceAdd, Int.reduceSub, Int.reduceMul, Int.reduceToNat, Int.reduceNeg, Int.reduceEq, Nat.reducePow, Int.reducePow, Nat.reduceEqDiff, decide_true, decide_false, reduceIte, reduceCtorEq, Int.reduceBEq, Int.reduceBNe, bne_self_eq_false, Int.cast_ofNat_Int, Bool.not_true, Bool.not_false, IntKind.bits, w_nat, w_lit, w_add, w_addl, w_ladd, w_sub, w_subl, w_lsub, w_mul, w_mull, w_lmul, t_div, t_divl, t_mod, t_modl, i_lt, i_ltl, i_llt, i_le, i_lel, i_lle, i_eq, i_eql, i_leq, Nat.zero_le, d_beq, d_bne, d_bytes, byte_at, Int.toNat_natCast, toNat_lit, decide_eq_true, decide_eq_false, if_pos, if_neg, slA_len, slA_idx, slA_cells, flat_slA, one_slA, cells_slA, map_mid, strV_is, hp_get1, hp_get2, hp_get3, hp_set1, hp_set2, hp_set3, hp_old, hp_sold, set_got, set_set, set_next, set_other, bytesL, bytes_all, List.length_map, aapp_nils, aapp_wr, List.flatMap_cons, List.flatMap_nil, Nat.mul_one]
        refine add_first hm (hp_get _ _ _) htl ?_
        have hJ' := hJ ((p ++ [t], q), ([0], [t]))
        unfold retE
        refine stp (And.intro @hp_hp e1) ?_
        refine hJ' _ ⟨by simp [← hpq], ?_, by simp, ?_, ?_⟩ (by simp) ?_
        · simp only [offsetsL_snoc, hof, stepO, Option.bind_some, hm, if_true]
          simp [offT, txt]
        · simp [txt]
        · have hp := List.length_eq_zero_iff.1 hol.symm
          simpa using hp
        · simp only [offS, List.length_append, List.length_cons, List.length_nil, Nat.zero_add]
          exact fgt
      | cons o os =>
        have hl2 : (txt ls).length = (txt p).length + (txt (t :: q)).length := by rw [← hpq]; simp [txt]
        have hol2 : os.length + 1 = p.length := by simpa using hol
        simp (maxSteps := 4000000) (disch := (first | omega | (simp only [set_next, List.length_append, List.length_cons, List.length_nil, List.length_take, List.length_drop, List.length_map, List.length_set, List.length_replicate]; omega) | (simp only [set_next, ne_eq, reduceCtorEq, not_false_eq_true]))) only [e1, offH, offS, go_sem, Nat.reduceLeDiff, Nat.reduceAdd, Nat.reduceSub, Nat.reduceMul, Nat.reduceLT, Int.reduceLT, Int.reduceLE, Int.reduceAdd, Int.reduceSub, Int.reduceMul, Int.reduceToNat, Int.reduceNeg, Int.reduceEq, Nat.reducePow, Int.reducePow, Nat.reduceEqDiff, decide_true, decide_false, reduceIte, reduceCtorEq, Int.reduceBEq, Int.reduceBNe, bne_self_eq_false, Int.cast_ofNat_Int, Bool.not_true, Bool.not_false, IntKind.bits, w_nat, w_lit, w_add, w_addl, w_ladd, w_sub, w_subl, w_lsub, w_mul, w_mull, w_lmul, t_div, t_divl, t_mod, t_modl, i_lt, i_ltl, i_llt, i_le, i_lel, i_lle, i_eq, i_eql, i_leq, Nat.zero_le, d_beq, d_bne, d_bytes, byte_at, Int.toNat_natCast, toNat_lit, decide_eq_true, decide_eq_false, if_pos, if_neg, slA_len, slA_idx, slA_cells, flat_slA, one_slA, cells_slA, map_mid, strV_is, hp_get1, hp_get2, hp_get3, hp_set1, hp_set2, hp_set3, hp_old, hp_sold, set_got, set_set, set_next, set_other, bytesL, bytes_all, List.length_map, aapp_nils, aapp_wr, List.flatMap_cons, List.flatMap_nil, Nat.mul_one]
        cases ho : offT t 0 ts with
        | some o1 =>
          have hJ' := hJ ((p ++ [t], q), (o :: os ++ [(o1 : Int)], ts))
          refine add_found hm (hp_get _ _ _) (hp_get _ _ 1) ho ?_
          unfold retE
          refine stp e1 ?_
          simp only [List.cons_append, offH, offS, List.length_append, List.length_cons, List.length_nil, List.map_append, List.map_cons, List.map_nil, Nat.zero_add] at hJ'
          refine hJ' _ ⟨by simp [← hpq], ?_, by simpa using hnil, ?_, ?_⟩ (by omega) ?_
          · simp only [offsetsL_snoc, hof, stepO, Option.bind_some, hm, if_true, ho]
            simp
          · simp [txt] at htx ⊢; omega
          · simpa using hol
          · exact fgt
        | none =>
          have hJ' := hJ ((p ++ [t], q), (o :: os ++ [((txt ts).length : Int)], ts ++ [t]))
          refine add_new hm (hp_get _ _ _) (hp_get _ _ 1) ho (by omega) htl ?_
          unfold retE
          refine stp e1 ?_
          simp only [List.cons_append, offH, offS, List.length_append, List.length_cons, List.length_nil, List.map_append, List.map_cons, List.map_nil, Nat.zero_add] at hJ'
          refine hJ' _ ⟨by simp [← hpq], ?_, by simp, ?_, ?_⟩ (by omega) ?_
          · simp only [offsetsL_snoc, hof, stepO, Option.bind_some, hm, if_true, ho]
            simp
          · simp [txt] at htx ⊢; omega
          · simpa using hol
          · exact fgt
set_option maxHeartbeats 16000000
theorem propMem {l : List (List UInt8 × List UInt8)} {i : Nat} (h : i < l.length) : l.getD i ([], []) ∈ l := by
  rw [List.getD_eq_getElem?_getD, List.getElem?_eq_getElem h]
  exact List.getElem_mem h
theorem propV_is (p : List UInt8 × List UInt8) : propV p = .agg [.str (B p.1), .str (B p.2)] := rfl
theorem props_cell (l : List (List UInt8 × List UInt8)) {i : Nat} (h : i < l.length) : (((l.map propV).flatMap AV.cells).drop (i * 2)).take 2 = [.str (B (l.getD i ([], [])).1), .str (B (l.getD i ([], [])).2)] := by
  rw [flat_drop _ _ (props_len l) (by rw [List.length_map]; omega)]
  have hd : (l.map propV).drop i = propV (l.getD i ([], [])) :: (l.map propV).drop (i + 1) := by
    have hi : i < (l.map propV).length := by rw [List.length_map]; exact h
    rw [List.drop_eq_getElem_cons hi]
    congr 1
    rw [List.getElem_map, List.getD_eq_getElem?_getD, List.getElem?_eq_getElem h]
    rfl
  rw [hd, List.flatMap_cons, propV_cells]
  rfl
def setPr (nm v : List UInt8) : List (List UInt8 × List UInt8) → List (List UInt8 × List UInt8)
  | [] => [(nm, v)]
  | x :: l => if x.1 = nm then (x.1, v) :: l else x :: setPr nm v l
def setF (nm v : List UInt8) (t : Tr) : Tr × Int := if mayL nm = true then (.mk t.name 0 (setPr nm v t.props) 0 t.kids, 0) else (t, 1)
theorem setPr_at (nm v : List UInt8) : ∀ (l : List (List UInt8 × List UInt8)) (i : Nat), (ixOf (fun x : List UInt8 × List UInt8 => decide (x.1 = nm)) l i = -1 ∧ setPr nm v l = l ++ [(nm, v)]) ∨ ∃ j, ixOf (fun x : List UInt8 × List UInt8 => decide (x.1 = nm)) l i = ((i + j : Nat) : Int) ∧ j < l.length ∧ setPr nm v l = l.set j ((l.getD j ([], [])).1, v)
  | [], i => .inl ⟨rfl, rfl⟩
  | x :: l, i => by
    rw [ixOf, setPr]
    by_cases h : x.1 = nm
    · rw [if_pos (decide_eq_true h), if_pos h]
      exact .inr ⟨0, rfl, by simp, rfl⟩
    · rw [if_neg (by simpa using h), if_neg h]
      rcases setPr_at nm v l (i + 1) with ⟨h1, h2⟩ | ⟨j, h1, h2, h3⟩
      · exact .inl ⟨h1, by rw [h2]; rfl⟩
      · exact .inr ⟨j + 1, by rw [h1]; omega, by rw [List.length_cons]; omega, by rw [h3]; rfl⟩
section
variable {H : AHeap} {K : AV → AHeap → Prop}
theorem pindexO_a {n0 : Nat} {v : AV} {l : List (List UInt8 × List UInt8)} {p : (List UInt8 × List UInt8) → Bool} {f : Nat} {cs : List AV} (hv : SlAt n0 H 62 2 v (l.map propV)) (hn : l.length ≤ 1000000)
    (hpp : ∀ x ∈ l, ∀ K : AV → AHeap → Prop, K (.bool (p x)) H → (ACalls Tryd.prog) f ([] ++ [propV x] ++ cs) H K) (h : K (.int .i64 (ixOf p l 0)) H) :
    (ACalls Tryd.prog) 55 [v, .func (.func f) [] cs] H K := by
  refine acalls_go mo t55 (fun hs hu => ?_)
  rcases hv with ⟨rfl, he⟩ | ⟨id, gen, rfl, hid, hg⟩
  · have hl : l = [] := by simpa using he
    subst hl
    have h : K (.int .i64 (-1)) H := h
    simp only [c55, go_sem, Nat.reduceLeDiff, Nat.reduceAdd, Nat.reduceSub, Nat.reduceMul, Nat.reduceLT, Int.reduceLT, Int.reduceLE, Int.reduceAdd, Int.reduceSub, Int.reduceMul, Int.reduceToNat, Int.reduceNeg, Int.reduceEq, Nat.reducePow, Int.reducePow, Nat.reduceEqDiff, decide_true, decide_false, reduceIte, reduceCtorEq, Int.reduceBEq, Int.reduceBNe, bne_self_eq_false, Int.cast_ofNat_Int, Bool.not_true, Bool.not_false, IntKind.bits]
    refine go_rounds mono 1 ?_
    simp (maxSteps := 4000000) (disch := (first | omega | (simp only [set_next, List.length_append, List.length_cons, List.length_nil, List.length_take, List.length_drop, List.length_map, List.length_set, List.length_replicate]; omega) | (simp only [set_next, ne_eq, reduceCtorEq, not_false_eq_true]))) only [rnds_succ, go_sem, Nat.reduceLeDiff, Nat.reduceAdd, Nat.reduceSub, Nat.reduceMul, Nat.reduceLT, Int.reduceLT, Int.reduceLE, Int.reduceAdd, Int.reduceSub, Int.reduceMul, Int.reduceToNat, Int.reduceNeg, Int.reduceEq, Nat.reducePow, Int.reducePow, Nat.reduceEqDiff, decide_true, decide_false, reduceIte, reduceCtorEq, Int.reduceBEq, Int.reduceBNe, bne_self_eq_false, Int.cast_ofNat_Int, Bool.not_true, Bool.not_false, IntKind.bits, w_nat, w_lit, w_add, w_addl, w_ladd, w_sub, w_subl, w_lsub, w_mul, w_mull, w_lmul, t_div, t_divl, t_mod, t_modl, i_lt, i_ltl, i_llt, i_le, i_lel, i_lle, i_eq, i_eql, i_leq, Nat.zero_le, d_beq, d_bne, d_bytes, byte_at, Int.toNat_natCast, toNat_lit, decide_eq_true, decide_eq_false, if_pos, if_neg, slA_len, slA_idx, slA_cells, flat_slA, one_slA, cells_slA, map_mid, strV_is, hp_get1, hp_get2, hp_get3, hp_set1, hp_set2, hp_set3, hp_old, hp_sold, set_got, set_set, set_next, set_other, bytesL, bytes_all, List.length_map, aapp_nils, aapp_wr, List.flatMap_cons, List.flatMap_nil, Nat.mul_one]
    exact aret_u hs (h)
  · have hlg := H.lt hg
    have hfl := flat_length _ _ (props_len l)
    have hcell := fun i (hi : i < l.length) => props_cell l hi
    rw [List.length_map] at hfl ⊢
    generalize (l.map propV).flatMap AV.cells = R at *
    simp only [c55, go_sem, Nat.reduceLeDiff, Nat.reduceAdd, Nat.reduceSub, Nat.reduceMul, Nat.reduceLT, Int.reduceLT, Int.reduceLE, Int.reduceAdd, Int.reduceSub, Int.reduceMul, Int.reduceToNat, Int.reduceNeg, Int.reduceEq, Nat.reducePow, Int.reducePow, Nat.reduceEqDiff, decide_true, decide_false, reduceIte, reduceCtorEq, Int.reduceBEq, Int.reduceBNe, bne_self_eq_false, Int.cast_ofNat_Int, Bool.not_true, Bool.not_false, IntKind.bits]
    refine go_loopS mono (σ := Nat) (fun i => [(8, .int .i64 (i : Int))]) (fun i => hp H []) (fun i => i ≤ l.length ∧ ixOf p (l.drop i) i = ixOf p l 0) (fun i => l.length - i) 0 ?_ rfl ⟨by omega, rfl⟩ (fun i hi J hJ => ?_)
    · exact fgt
    obtain ⟨hil, hix⟩ := hi
    simp only [blurR_nil, blurR_some, blurR_none, blurC_region, blurC_regionN, blurC_fregion, blurT_nil, blurT_cons, blurC_seq, blurC_both, blurC_cond, blurC_block, blurC_loop, blurC_skip, blurC_exit, blurC_ret, tellS_nil, tellS_cons, List.set_cons_zero, List.set_cons_succ, tops_zero, tops_succ]
    by_cases h1 : i < l.length
    · have hcm := hcell i h1
      have hm := propMem h1
      rw [ixOf_drop p l i ([], []) h1] at hix
      generalize l.getD i ([], []) = x at *
      refine stp (And.intro hg hcm) ?_
      rw [← propV_is, hp_nil]
      refine hpp _ hm _ ?_
      rw [← hp_nil (H := H)]
      cases h2 : p x with
      | true =>
        rw [if_pos h2] at hix
        rw [← hix] at h
        refine stp0 ?_
        exact aret_u hs (h)
      | false =>
        rw [if_neg (by rw [h2]; exact Bool.false_ne_true)] at hix
        refine stp0 ?_
        exact hJ (i + 1) _ ⟨h1, hix⟩ (by omega) fgt
    · rw [List.drop_of_length_le (by omega)] at hix
      rw [← hix] at h
      refine stp0 ?_
      exact aret_u hs (h)
theorem mayE_a {s : List UInt8} (hl : s.length ≤ 1000) (h : K (.bool (mayL s)) H) : (ACalls Tryd.prog) 32 [.str (B s)] H K := by
  refine acalls_go mo t32 (fun hs hu => ?_)
  simp only [c32, go_sem, Nat.reduceLeDiff, Nat.reduceAdd, Nat.reduceSub, Nat.reduceMul, Nat.reduceLT, Int.reduceLT, Int.reduceLE, Int.reduceAdd, Int.reduceSub, Int.reduceMul, Int.reduceToNat, Int.reduceNeg, Int.reduceEq, Nat.reducePow, Int.reducePow, Nat.reduceEqDiff, decide_true, decide_false, reduceIte, reduceCtorEq, Int.reduceBEq, Int.reduceBNe, bne_self_eq_false, Int.cast_ofNat_Int, Bool.not_true, Bool.not_false, IntKind.bits]
  refine offsets_a (k := 2) (ls := [s]) ?_ (by show 1 ≤ 10000; decide) (fun x hx => by rw [List.mem_singleton] at hx; rw [hx]; exact hl) ?_
  · simp [txt]
    omega
  · cases hm : mayL s with
    | true =>
      rw [hm] at h
      have e : offsetsL [s] = some ([0], [s]) := by
        show stepO (some ([], [])) s = _
        unfold stepO
        simp [hm, offT, txt]
      rw [e]
      unfold offV
      refine stp0 ?_
      exact aret_u hs (h)
    | false =>
      rw [hm] at h
      have e : offsetsL [s] = none := offsetsL_stop (p := []) (q := []) hm
      rw [e]
      unfold offV
      refine stp0 ?_
      exact aret_u hs (h)
theorem prop1_a {id : Nat} {nm : List UInt8} {x : List UInt8 × List UInt8} (hg : H.get id = some (.row 9 0 [.str (B nm)])) (h : K (.bool (decide (x.1 = nm))) H) : (ACalls Tryd.prog) 56 [propV x, .ptr id 0 0] H K := by
  refine acalls_go mo t56 (fun hs hu => ?_)
  have hlt := H.lt hg
  simp only [c56, propV_is, go_sem, Nat.reduceLeDiff, Nat.reduceAdd, Nat.reduceSub, Nat.reduceMul, Nat.reduceLT, Int.reduceLT, Int.reduceLE, Int.reduceAdd, Int.reduceSub, Int.reduceMul, Int.reduceToNat, Int.reduceNeg, Int.reduceEq, Nat.reducePow, Int.reducePow, Nat.reduceEqDiff, decide_true, decide_false, reduceIte, reduceCtorEq, Int.reduceBEq, Int.reduceBNe, bne_self_eq_false, Int.cast_ofNat_Int, Bool.not_true, Bool.not_false, IntKind.bits]
  refine stp hg ?_
  exact aret_u hs (h)
theorem prop_a {n0 pid pg po : Nat} {R : List AV} {vp : AV} {ps : List (List UInt8 × List UInt8)} {nm : List UInt8} (hg : H.get pid = some (.row 25 pg R)) (hR : R[po + 1]? = some vp) (hv : SlAt n0 H 62 2 vp (ps.map propV)) (hn : ps.length ≤ 1000000) (h : K (.int .i64 (ixOf (fun x : List UInt8 × List UInt8 => decide (x.1 = nm)) ps 0)) H) :
    (ACalls Tryd.prog) 33 [.ptr pid pg po, .str (B nm)] H K := by
  refine acalls_go mo t33 (fun hs hu => ?_)
  have hlt := H.lt hg
  simp only [c33, go_sem, Nat.reduceLeDiff, Nat.reduceAdd, Nat.reduceSub, Nat.reduceMul, Nat.reduceLT, Int.reduceLT, Int.reduceLE, Int.reduceAdd, Int.reduceSub, Int.reduceMul, Int.reduceToNat, Int.reduceNeg, Int.reduceEq, Nat.reducePow, Int.reducePow, Nat.reduceEqDiff, decide_true, decide_false, reduceIte, reduceCtorEq, Int.reduceBEq, Int.reduceBNe, bne_self_eq_false, Int.cast_ofNat_Int, Bool.not_true, Bool.not_false, IntKind.bits]
  refine stp (And.intro hg hR) ?_
  refine pindexO_a (p := fun x => decide (x.1 = nm)) (slat_hp hv _) hn (fun x hx K hk => prop1_a (hp_get _ _ 0) hk) ?_
  refine stp0 ?_
  exact aret_u hs (h)
end
theorem cs_parts {R : List AV} {po : Nat} {a b c : AV} (htk : (R.drop po).take 3 = [a, b, c]) : R[po + 0]? = some a ∧ R[po + 1]? = some b ∧ R[po + 2]? = some c ∧ R = R.take po ++ [a, b, c] ++ R.drop (po + 3) := by
  refine ⟨?_, ?_, ?_, ?_⟩
  · have := congrArg (fun x => x[0]?) htk
    simp only [List.getElem?_take, List.getElem?_drop] at this
    simpa using this
  · have := congrArg (fun x => x[1]?) htk
    simp only [List.getElem?_take, List.getElem?_drop] at this
    simpa using this
  · have := congrArg (fun x => x[2]?) htk
    simp only [List.getElem?_take, List.getElem?_drop] at this
    simpa using this
  · rw [← htk]
    conv => lhs; rw [← List.take_append_drop po R, ← List.take_append_drop 3 (R.drop po), List.drop_drop]
    rw [List.append_assoc]
/-- A property has another value: its cells, in its row. -/
theorem pr_set (l : List (List UInt8 × List UInt8)) (j : Nat) (v : List UInt8) (h : j < l.length) : ((l.map propV).flatMap AV.cells).take (j * 2 + 1) ++ [.str (B v)] ++ ((l.map propV).flatMap AV.cells).drop (j * 2 + 1 + 1) = ((l.set j ((l.getD j ([], [])).1, v)).map propV).flatMap AV.cells := by
  induction l generalizing j with
  | nil => exact absurd h (Nat.not_lt_zero _)
  | cons x l ih =>
    cases j with
    | zero => rfl
    | succ j =>
      have := ih j (by simpa using h)
      rw [List.set_cons_succ, List.map_cons, List.map_cons, List.flatMap_cons, List.flatMap_cons, propV_cells]
      rw [show (x :: l).getD (j + 1) ([], []) = l.getD j ([], []) from rfl, ← this]
      rw [show (j + 1) * 2 + 1 = j * 2 + 1 + 2 by omega]
      rfl
/-- A node has other properties. -/
theorem chg_props {G G' : AHeap} {pid pg po : Nat} {R : List AV} {name : List UInt8} {vp vp' vk : AV} {ps ps' : List (List UInt8 × List UInt8)} {css : List (List AV)} {ks : List Tr} {fps : List (List Nat)}
    (m1 : SlAt 0 G 62 2 vp (ps.map propV)) (m2 : SlAt 0 G 25 3 vk (css.map AV.agg)) (m3 : css.length = ks.length) (m4 : fps.length = ks.length) (m5 : ∀ j, j < ks.length → MT G (css.getD j []) (ks.getD j tr0) (fps.getD j []))
    (hnd : (rowId vp ++ rowId vk ++ fps.flatten).Nodup) (hpF : pid ∉ rowId vp ++ rowId vk ++ fps.flatten) (hpid : pid < G.next)
    (hrow' : G'.get pid = some (.row 25 pg (R.take po ++ [.str (B name), vp', vk] ++ R.drop (po + 3)))) (hv' : SlAt 0 G' 62 2 vp' (ps'.map propV)) (hid : ∀ x ∈ rowId vp', x ∈ rowId vp ∨ G.next ≤ x) (hn : G.next ≤ G'.next) (hw : G'.within G'.next)
    (hfr : ∀ x, x < G.next → x ≠ pid → x ∉ rowId vp → G'.get x = G.get x) : Chg G pid pg po R (rowId vp ++ rowId vk ++ fps.flatten) (.mk name 0 ps' 0 ks) G' := by
  have hnd0 := hnd
  rw [List.append_assoc, List.nodup_append] at hnd
  obtain ⟨_, hnd2, hnd3⟩ := hnd
  have hkl : ∀ x ∈ rowId vk ++ fps.flatten, x < G.next := fun x hx => by
    rcases List.mem_append.1 hx with q | q
    · exact (rowId_lt m2 q).1
    · obtain ⟨j, hj, hxj⟩ := mem_fl q
      exact mt_lt (m5 j (by omega)) x hxj
  have hrest : ∀ x ∈ rowId vk ++ fps.flatten, G'.get x = G.get x := fun x hx => hfr x (hkl x hx) (fun e => hpF (by rw [← e, List.append_assoc]; exact List.mem_append_right _ hx)) (fun q => hnd3 x q x hx rfl)
  refine ⟨hn, hw, fun x hx hxp hxF => hfr x hx hxp (fun q => hxF (by simp [q])), [.str (B name), vp', vk], rowId vp' ++ rowId vk ++ fps.flatten, hrow', ?_, ?_, ?_, fun x hx => ?_⟩
  · exact .mk name vp' vk ps' css ks fps hv' (slat_same m2 (fun x hx => hrest x (List.mem_append_left _ hx))) m3 m4 (fun j hj => mt_same (m5 j hj) (fun x hx => hrest x (List.mem_append_right _ (mem_fps hx))))
  · rw [List.append_assoc, List.nodup_append]
    refine ⟨rowId_nodup vp', hnd2, fun x hx y hy e => ?_⟩
    subst e
    rcases hid x hx with g | g
    · exact hnd3 x g x hy rfl
    · have := hkl x hy
      omega
  · intro q
    rw [List.append_assoc] at q hpF
    rcases List.mem_append.1 q with q | q
    · rcases hid pid q with g | g
      · exact hpF (List.mem_append_left _ g)
      · omega
    · exact hpF (List.mem_append_right _ q)
  · rw [List.append_assoc] at hx ⊢
    rcases List.mem_append.1 hx with q | q
    · exact (hid x q).imp (fun g => List.mem_append_left _ g) id
    · exact .inl (List.mem_append_right _ q)
theorem row3_1 {R : List AV} {po : Nat} {a b c x : AV} (h : R = R.take po ++ [a, b, c] ++ R.drop (po + 3)) (hl : po + 3 ≤ R.length) : R.take (po + 1) ++ [x] ++ R.drop (po + 1 + 1) = R.take po ++ [a, x, c] ++ R.drop (po + 3) := by
  have hA : (R.take po).length = po := by rw [List.length_take]; omega
  generalize R.take po = L at *
  generalize R.drop (po + 3) = T at *
  subst h
  subst hA
  have e : L ++ [a, b, c] ++ T = L ++ ([a, b, c] ++ T) := List.append_assoc _ _ _
  rw [e, List.take_length_add_append, show L.length + 1 + 1 = L.length + 2 by omega, List.drop_length_add_append]
  simp
theorem setDo {H : AHeap} {i1 i2 : Nat} {nm v : List UInt8} (hn : nm.length ≤ 1000) (hv_ : v.length ≤ 100000) (g1 : H.get i1 = some (.row 9 0 [.str (B nm)])) (g2 : H.get i2 = some (.row 9 0 [.str (B v)])) : DoOk H 31 [.ptr i1 0 0, .ptr i2 0 0] (setF nm v) := by
  intro t G pid pg po R cs F K hb hrow hlen htk hm hnd hpF hP hp0 hF0 hw h
  have hl1 := H.lt g1
  have hl2 := H.lt g2
  have e1 := (hP.get i1 hl1).trans g1
  have e2 := (hP.get i2 hl2).trans g2
  have hg1 := G.lt e1
  have hg2 := G.lt e2
  have hlp := G.lt hrow
  cases hm with
  | mk name vp vk ps css ks fps m1 m2 m3 m4 m5 =>
  obtain ⟨hR0, hR1, hR2, hRs⟩ := cs_parts htk
  have hpl : ps.length ≤ 1000000 := by cases hb; assumption
  unfold setF at h
  refine acalls_go mo t31 (fun hs hu => ?_)
  simp only [c31, go_sem, Nat.reduceLeDiff, Nat.reduceAdd, Nat.reduceSub, Nat.reduceMul, Nat.reduceLT, Int.reduceLT, Int.reduceLE, Int.reduceAdd, Int.reduceSub, Int.reduceMul, Int.reduceToNat, Int.reduceNeg, Int.reduceEq, Nat.reducePow, Int.reducePow, Nat.reduceEqDiff, decide_true, decide_false, reduceIte, reduceCtorEq, Int.reduceBEq, Int.reduceBNe, bne_self_eq_false, Int.cast_ofNat_Int, Bool.not_true, Bool.not_false, IntKind.bits]
  refine stp e1 ?_
  refine mayE_a hn ?_
  cases hmy : mayL nm with
  | false =>
    rw [hmy, if_neg Bool.false_ne_true] at h
    refine stp0 ?_
    rw [hp_nil]
    exact aret_full (Nat.le_refl _) hw (.int _ _) (h G (fun x _ _ _ => rfl) hw (Nat.le_refl _) (fun e => absurd (show (1 : Int) = 0 from e) (by decide)))
  | true =>
    rw [hmy, if_pos rfl] at h
    have h : ∀ G', (∀ x, x < G.next → x ≠ pid → x ∉ rowId vp ++ rowId vk ++ fps.flatten → G'.get x = G.get x) → G'.within G'.next → G.next ≤ G'.next → Chg G pid pg po R (rowId vp ++ rowId vk ++ fps.flatten) (.mk name 0 (setPr nm v ps) 0 ks) G' → K (.int .i64 0) G' := fun G' q1 q2 q3 q4 => h G' q1 q2 q3 (fun _ => q4)
    refine stp e1 ?_
    rw [hp_nil]
    refine prop_a hrow hR1 m1 hpl ?_
    rw [← hp_nil (H := G)]
    rcases setPr_at nm v ps 0 with ⟨hix, hse⟩ | ⟨j, hix, hj, hse⟩
    · rw [hix]
      rw [hse] at h
      obtain ⟨v3, G4, hE, hv3, hgr, hw4, hfr⟩ := slat_app4 (G := hp G []) (b := 32) (ys := [propV (nm, v)]) (slat_hp m1 []) (Nat.zero_le _) (props_len ps) (props_one [(nm, v)]) (by simp only [List.length_map, List.length_singleton]; omega) (by rw [hp_nil]; exact hw) (fun x hx c hc => by
        rw [List.mem_singleton] at hx
        subst hx
        rw [propV_cells] at hc
        simp only [List.mem_cons, List.mem_nil_iff, or_false] at hc
        rcases hc with rfl | rfl
        · exact .str _
        · exact .str _)
      rw [propV_is] at hE
      rw [hp_nil] at hgr hfr
      have hpv : pid ∉ rowId vp := fun q => hpF (by simp [q])
      have hr4 : G4.get pid = some (.row 25 pg R) := (hfr pid hlp hpv).trans hrow
      have hl4 := G4.lt hr4
      obtain ⟨x1, x2, x3, x4⟩ := slat_one2 hv3
      refine stp (And.intro hrow (And.intro hR1 (And.intro e1 (And.intro e2 (And.intro hE (And.intro hr4 (And.intro x1 (And.intro x2 x3)))))))) ?_
      rw [hp_nil, row3_1 hRs hlen]
      have hsum : ps.map propV ++ [propV (nm, v)] = (ps ++ [(nm, v)]).map propV := by rw [List.map_append]; rfl
      rw [hsum] at hv3
      have hid3 : ∀ x ∈ rowId v3, x ∈ rowId vp ∨ G.next ≤ x := fun x hx => by
        by_cases hxn : x < G.next
        · refine .inl (Decidable.byContradiction fun hc => ?_)
          obtain ⟨gen, off, len, sz, e⟩ := rowId_of hx
          exact hgr.id x hxn (rowId_wr hc) gen off len sz e
        · exact .inr (by omega)
      have hp3 : pid ∉ rowId v3 := fun q => by
        rcases hid3 pid q with g | g
        · exact hpv g
        · omega
      have hrow' : (G4.set pid (.row 25 pg (R.take po ++ [.str (B name), v3, vk] ++ R.drop (po + 3)))).get pid = some (.row 25 pg (R.take po ++ [.str (B name), v3, vk] ++ R.drop (po + 3))) := set_got hl4
      have hw' : (G4.set pid (.row 25 pg (R.take po ++ [.str (B name), v3, vk] ++ R.drop (po + 3)))).within G4.next := within_set hw4 (fun c hc => by
        have hRu := hw pid _ hlp hrow
        rcases List.mem_append.1 hc with q | q
        · rcases List.mem_append.1 q with q | q
          · exact up_under hgr.next (hRu c (List.mem_of_mem_take q))
          · simp only [List.mem_cons, List.mem_nil_iff, or_false] at q
            rcases q with rfl | rfl | rfl
            · exact .str _
            · exact x4
            · exact up_under hgr.next (slat_one2 m2).2.2.2
        · exact up_under hgr.next (hRu c (List.mem_of_mem_drop q)))
      have hfr' : ∀ x, x < G.next → x ≠ pid → x ∉ rowId vp → (G4.set pid (.row 25 pg (R.take po ++ [.str (B name), v3, vk] ++ R.drop (po + 3)))).get x = G.get x := fun x hx hxp hxv => (set_other hxp).trans (hfr x hx hxv)
      exact aret_full (G := G4.set pid (.row 25 pg (R.take po ++ [.str (B name), v3, vk] ++ R.drop (po + 3)))) hgr.next hw' (.int _ _) (h _ (fun x hx hxp hxF => hfr' x hx hxp (fun q => hxF (by simp [q]))) hw' hgr.next (chg_props m1 m2 m3 m4 m5 hnd hpF hlp hrow' (slat_same hv3 (fun x hx => set_other (fun e => hp3 (by rw [← e]; exact hx)))) hid3 hgr.next hw' hfr'))
    · rw [hix, Nat.zero_add]
      rw [hse] at h
      rcases m1 with ⟨_, he⟩ | ⟨idp, genp, rfl, _, hgp⟩
      · have : ps = [] := by simpa using he
        rw [this] at hj
        exact absurd hj (Nat.not_lt_zero _)
      · rw [List.length_map] at *
        have hfl := flat_length _ _ (props_len ps)
        rw [List.length_map] at hfl
        have hps := pr_set ps j v hj
        have hlg := G.lt hgp
        refine stp (And.intro hrow (And.intro hR1 (And.intro e2 hgp))) ?_
        rw [hp_nil, hps]
        have hip : idp ≠ pid := fun e => hpF (by simp [rowId, e])
        have hrow' : (G.set idp (.row 62 genp (((ps.set j ((ps.getD j ([], [])).1, v)).map propV).flatMap AV.cells))).get pid = some (.row 25 pg (R.take po ++ [.str (B name), .wr idp genp 0 ps.length 2, vk] ++ R.drop (po + 3))) := by
          rw [set_other (fun e => hip e.symm), hrow, ← hRs]
        have hw' : (G.set idp (.row 62 genp (((ps.set j ((ps.getD j ([], [])).1, v)).map propV).flatMap AV.cells))).within G.next := within_set hw (fun c hc => by
          obtain ⟨x, hx, hcx⟩ := List.mem_flatMap.1 hc
          exact props_u _ _ x hx c hcx)
        have hfr' : ∀ x, x < G.next → x ≠ pid → x ∉ rowId (.wr idp genp 0 ps.length 2) → (G.set idp (.row 62 genp (((ps.set j ((ps.getD j ([], [])).1, v)).map propV).flatMap AV.cells))).get x = G.get x := fun x _ _ hxv => set_other (fun e => hxv (by rw [e]; exact List.mem_singleton.2 rfl))
        exact aret_full (G := G.set idp (.row 62 genp (((ps.set j ((ps.getD j ([], [])).1, v)).map propV).flatMap AV.cells))) (Nat.le_refl _) hw' (.int _ _) (h _ (fun x hx hxp hxF => hfr' x hx hxp (fun q => hxF (List.mem_append_left _ (List.mem_append_left _ q)))) hw' (Nat.le_refl _) (chg_props (.inr ⟨idp, genp, by rw [List.length_map], Nat.zero_le _, hgp⟩) m2 m3 m4 m5 hnd hpF hlp hrow' (.inr ⟨idp, genp, by rw [List.length_map, List.length_set], Nat.zero_le _, set_got hlg⟩) (fun x hx => .inl hx) (Nat.le_refl _) hw' hfr'))
section
variable {G : AHeap} {e : TypeId} {gd d off len sz m : Nat} {R ys : List AV} {x : AV}
theorem cells_wcD {cap : Nat} (hd : G.get d = some (.row e gd R)) (hle : off + len * sz ≤ R.length) : acells G sz (.wc d gd off len cap sz) = some (len, (R.drop off).take (len * sz)) := by
  simp only [acells, if_true, hd]
  rw [if_pos ⟨trivial, hle⟩]
theorem aret_wcD {n k cap : Nat} {K : AV → AHeap → Prop} (hn : n ≤ G.next) (hw : G.within G.next) (hd : G.get d = some (.row e gd R)) (hk : K (.wr d gd 0 k sz) (G.set d (.row e gd (R.take (k * sz))))) : ARet n K (.wc d gd 0 k cap sz) G := by
  refine ⟨G.set d (.row e gd (R.take (k * sz))), .wr d gd 0 k sz, G.next, .trans _ _ _ _ _ _ (.cut _ _ _ _ _ _ _ hd) (.soft _ _ _ _ _ _ _), hn, .wr _ _ _ _ _ (G.lt hd), ?_, ?_⟩
  · refine within_set hw (fun c hc => ?_)
    exact hw d _ (G.lt hd) hd c (List.mem_of_mem_take hc)
  · rw [show (G.set d (.row e gd (R.take (k * sz)))).trunc G.next = G.set d (.row e gd (R.take (k * sz))) from trunc_self _]
    exact hk
end
section
variable {H : AHeap} {K : AV → AHeap → Prop}
theorem delPr_a {n0 j : Nat} {v : AV} {xs : List AV} (hv : SlAt n0 H 62 2 v xs) (hx : ∀ x ∈ xs, x.cells.length = 2) (hx1 : (xs.flatMap AV.cells).all AV.one = true) (hj : j < xs.length) (hnb : xs.length ≤ 1000000)
    (h : ∀ v' G, SlAt n0 G 62 2 v' (xs.take j ++ xs.drop (j + 1)) → rowId v' = rowId v → G.next = H.next → (∀ x, x ∉ rowId v → G.get x = H.get x) → G.within G.next → K v' G) :
    (ACalls Tryd.prog) 35 [v, .int .i64 (j : Int), .int .i64 ((j + 1 : Nat) : Int)] H K := by
  rcases hv with ⟨rfl, rfl⟩ | ⟨id, gen, rfl, hid, hg⟩
  · exact absurd hj (Nat.not_lt_zero _)
  have hfl := flat_length _ _ hx
  have hlg := H.lt hg
  refine acalls_cap (pre := []) hg (fun cap hc1 hc2 => ?_)
  have hpt : (padC (0 + cap * 2) (xs.flatMap AV.cells)).take (xs.length * 2) = xs.flatMap AV.cells := by
    rw [padC_take _ _ (by omega), List.take_of_length_le (by omega)]
  have hpl := padC_len (0 + cap * 2) (xs.flatMap AV.cells)
  have hset : (H.set id (.row 62 gen (padC (0 + cap * 2) (xs.flatMap AV.cells)))).get id = some (.row 62 gen (padC (0 + cap * 2) (xs.flatMap AV.cells))) := set_got hlg
  have hso : ∀ x, x ≠ id → (H.set id (.row 62 gen (padC (0 + cap * 2) (xs.flatMap AV.cells)))).get x = H.get x := fun x hx => set_other hx
  have hsn : (H.set id (.row 62 gen (padC (0 + cap * 2) (xs.flatMap AV.cells)))).next = H.next := rfl
  have hss : ∀ o, (H.set id (.row 62 gen (padC (0 + cap * 2) (xs.flatMap AV.cells)))).set id o = H.set id o := fun o => set_set _ _ _ _
  generalize padC (0 + cap * 2) (xs.flatMap AV.cells) = C at *
  generalize hHs : H.set id (.row 62 gen C) = Hs at *
  refine acalls_go mo t35 (fun hs hu => ?_)
  have hlgs := Hs.lt hset
  simp only [c35, List.nil_append, go_sem, Nat.reduceLeDiff, Nat.reduceAdd, Nat.reduceSub, Nat.reduceMul, Nat.reduceLT, Int.reduceLT, Int.reduceLE, Int.reduceAdd, Int.reduceSub, Int.reduceMul, Int.reduceToNat, Int.reduceNeg, Int.reduceEq, Nat.reducePow, Int.reducePow, Nat.reduceEqDiff, decide_true, decide_false, reduceIte, reduceCtorEq, Int.reduceBEq, Int.reduceBNe, bne_self_eq_false, Int.cast_ofNat_Int, Bool.not_true, Bool.not_false, IntKind.bits]
  have hys : ((C.drop ((j + 1) * 2)).take ((xs.length - (j + 1)) * 2)) = ((xs.drop (j + 1)).flatMap AV.cells) := by
    have : (C.drop ((j + 1) * 2)).take ((xs.length - (j + 1)) * 2) = (C.take (xs.length * 2)).drop ((j + 1) * 2) := by
      rw [List.drop_take]
      congr 1
      omega
    rw [this, hpt, flat_drop xs (j + 1) hx (by omega)]
  have hyl : ((xs.drop (j + 1)).flatMap AV.cells).length = (xs.length - (j + 1)) * 2 := by
    rw [flat_length _ _ (fun x hx2 => hx x (List.mem_of_mem_drop hx2)), List.length_drop]
  have hy1 : ((xs.drop (j + 1)).flatMap AV.cells).all AV.one = true := by
    rw [List.all_eq_true] at hx1 ⊢
    intro c hc
    obtain ⟨x, hx2, hcx⟩ := List.mem_flatMap.1 hc
    exact hx1 c (List.mem_flatMap.2 ⟨x, List.mem_of_mem_drop hx2, hcx⟩)
  have htj : C.take (j * 2) = (xs.take j).flatMap AV.cells := by
    have : C.take (j * 2) = (C.take (xs.length * 2)).take (j * 2) := by rw [List.take_take, Nat.min_eq_left (by omega)]
    rw [this, hpt, flat_take xs j hx (by omega)]
  have hCj : (C.take (j * 2)).length = j * 2 := by rw [List.length_take]; omega
  have hsum : j + (xs.length - (j + 1)) = xs.length - 1 := by omega
  have hE : ∀ x, acells Hs 2 x = some (xs.length - (j + 1), (xs.drop (j + 1)).flatMap AV.cells) → aapp 62 2 32 (hp Hs []) (.wc id gen 0 j cap 2) x = some (.wc id gen 0 (xs.length - 1) cap 2, hp (Hs.set id (.row 62 gen (C.take (j * 2) ++ (xs.drop (j + 1)).flatMap AV.cells ++ C.drop (j * 2 + (xs.length - (j + 1)) * 2)))) []) := fun x hc => by
    unfold aapp
    rw [hp_nil, hc]
    simp only [hy1, if_true, hset]
    rw [if_pos ⟨trivial, trivial, trivial, by omega, by omega⟩, if_pos (by omega), Nat.zero_add, hp_nil, hyl, hsum]
  have hCl : (C.take (j * 2) ++ (xs.drop (j + 1)).flatMap AV.cells ++ C.drop (j * 2 + (xs.length - (j + 1)) * 2)).length = C.length := by
    rw [List.length_append, List.length_append, hCj, hyl, List.length_drop]
    omega
  have hCt : (C.take (j * 2) ++ (xs.drop (j + 1)).flatMap AV.cells ++ C.drop (j * 2 + (xs.length - (j + 1)) * 2)).take ((xs.length - 1) * 2) = (xs.take j ++ xs.drop (j + 1)).flatMap AV.cells := by
    rw [List.take_append_of_le_length (by rw [List.length_append, hCj, hyl]; omega), List.take_of_length_le (by rw [List.length_append, hCj, hyl]; omega), htj, List.flatMap_append]
  have hCc : ∀ c ∈ C.take (j * 2) ++ (xs.drop (j + 1)).flatMap AV.cells ++ C.drop (j * 2 + (xs.length - (j + 1)) * 2), c ∈ C := fun c hc => by
    rcases List.mem_append.1 hc with q | q
    · rcases List.mem_append.1 q with q | q
      · exact List.mem_of_mem_take q
      · rw [← hys] at q
        exact List.mem_of_mem_drop (List.mem_of_mem_take q)
    · exact List.mem_of_mem_drop q
  generalize C.take (j * 2) ++ (xs.drop (j + 1)).flatMap AV.cells ++ C.drop (j * 2 + (xs.length - (j + 1)) * 2) = D at *
  have hclr : aclear 2 [AV.str (B []), AV.str (B [])] (hp (Hs.set id (.row 62 gen D)) []) (.wc id gen ((xs.length - 1) * 2) (xs.length - (xs.length - 1)) (cap - (xs.length - 1)) 2) = some (hp (Hs.set id (.row 62 gen (D.take ((xs.length - 1) * 2) ++ [AV.str (B []), AV.str (B [])] ++ D.drop ((xs.length - 1) * 2 + 1 * 2)))) []) := by
    have e1 : xs.length - (xs.length - 1) = 1 := by omega
    simp only [aclear, aclearC, hp_nil, set_got hlgs, e1]
    rw [if_pos ⟨trivial, trivial, by omega⟩, set_set]
    simp only [List.replicate_one, List.flatten_cons, List.flatten_nil, List.append_nil]
  have hDt : (D.take ((xs.length - 1) * 2) ++ [AV.str (B []), AV.str (B [])] ++ D.drop ((xs.length - 1) * 2 + 1 * 2)).take ((xs.length - 1) * 2) = (xs.take j ++ xs.drop (j + 1)).flatMap AV.cells := by
    rw [List.append_assoc, List.take_append_of_le_length (by rw [List.length_take]; omega), List.take_take, Nat.min_self, hCt]
  have hDu : AllU Hs.next (D.take ((xs.length - 1) * 2) ++ [AV.str (B []), AV.str (B [])] ++ D.drop ((xs.length - 1) * 2 + 1 * 2)) := fun c hc => by
    have hCu := hs id _ hlgs hset
    rcases List.mem_append.1 hc with q | q
    · rcases List.mem_append.1 q with q | q
      · exact hCu c (hCc c (List.mem_of_mem_take q))
      · simp only [List.mem_cons, List.mem_nil_iff, or_false] at q
        rcases q with rfl | rfl
        · exact .str _
        · exact .str _
    · exact hCu c (hCc c (List.mem_of_mem_drop q))
  have hnl : (xs.take j ++ xs.drop (j + 1)).length = xs.length - 1 := by rw [List.length_append, List.length_take, List.length_drop]; omega
  have hfin : ARet Hs.next K (.wc id gen 0 (xs.length - 1) cap 2) (Hs.set id (.row 62 gen (D.take ((xs.length - 1) * 2) ++ [AV.str (B []), AV.str (B [])] ++ D.drop ((xs.length - 1) * 2 + 1 * 2)))) := by
    refine aret_wcD (Nat.le_refl _) (within_set hs hDu) (set_got hlgs) ?_
    have hw2 : (Hs.set id (.row 62 gen ((xs.take j ++ xs.drop (j + 1)).flatMap AV.cells))).within Hs.next := within_set hs (fun c hc => by
      rw [← hDt] at hc
      exact hDu c (List.mem_of_mem_take hc))
    rw [set_set, hDt]
    rw [hss] at hw2 ⊢
    rw [hsn] at hw2
    exact h _ _ (.inr ⟨id, gen, by rw [hnl], hid, set_got hlg⟩) rfl rfl (fun x hx => set_other (fun e => hx (by rw [e]; exact List.mem_singleton.2 rfl))) hw2
  have d1 : xs.length - 1 < cap := by omega
  by_cases d2 : j + 1 < cap
  · have hc := hE (.wc id gen ((j + 1) * 2) (xs.length - (j + 1)) (cap - (j + 1)) 2) (by rw [cells_wcD hset (by omega), hys])
    simp (maxSteps := 4000000) (disch := (first | omega | (simp only [set_next, List.length_append, List.length_cons, List.length_nil, List.length_take, List.length_drop, List.length_map, List.length_set, List.length_replicate]; omega) | (simp only [set_next, ne_eq, reduceCtorEq, not_false_eq_true]))) only [Nat.sub_zero, or_true, or_false, hc, hclr, d1, d2, go_sem, Nat.reduceLeDiff, Nat.reduceAdd, Nat.reduceSub, Nat.reduceMul, Nat.reduceLT, Int.reduceLT, Int.reduceLE, Int.reduceAdd, Int.reduceSub, Int.reduceMul, Int.reduceToNat, Int.reduceNeg, Int.reduceEq, Nat.reducePow, Int.reducePow, Nat.reduceEqDiff, decide_true, decide_false, reduceIte, reduceCtorEq, Int.reduceBEq, Int.reduceBNe, bne_self_eq_false, Int.cast_ofNat_Int, Bool.not_true, Bool.not_false, IntKind.bits, w_nat, w_lit, w_add, w_addl, w_ladd, w_sub, w_subl, w_lsub, w_mul, w_mull, w_lmul, t_div, t_divl, t_mod, t_modl, i_lt, i_ltl, i_llt, i_le, i_lel, i_lle, i_eq, i_eql, i_leq, Nat.zero_le, d_beq, d_bne, d_bytes, byte_at, Int.toNat_natCast, toNat_lit, decide_eq_true, decide_eq_false, if_pos, if_neg, slA_len, slA_idx, slA_cells, flat_slA, one_slA, cells_slA, map_mid, strV_is, hp_get1, hp_get2, hp_get3, hp_set1, hp_set2, hp_set3, hp_old, hp_sold, set_got, set_set, set_next, set_other, bytesL, bytes_all, List.length_map, aapp_nils, aapp_wr, List.flatMap_cons, List.flatMap_nil, Nat.mul_one]
    rw [hp_nil]
    exact hfin
  · have hz : xs.length - (j + 1) = 0 := by omega
    have hzz : xs.drop (j + 1) = [] := List.drop_of_length_le (by omega)
    have hc := hE .emp (by rw [hz, hzz]; rfl)
    simp (maxSteps := 4000000) (disch := (first | omega | (simp only [set_next, List.length_append, List.length_cons, List.length_nil, List.length_take, List.length_drop, List.length_map, List.length_set, List.length_replicate]; omega) | (simp only [set_next, ne_eq, reduceCtorEq, not_false_eq_true]))) only [Nat.sub_zero, or_true, or_false, hc, hclr, d1, d2, go_sem, Nat.reduceLeDiff, Nat.reduceAdd, Nat.reduceSub, Nat.reduceMul, Nat.reduceLT, Int.reduceLT, Int.reduceLE, Int.reduceAdd, Int.reduceSub, Int.reduceMul, Int.reduceToNat, Int.reduceNeg, Int.reduceEq, Nat.reducePow, Int.reducePow, Nat.reduceEqDiff, decide_true, decide_false, reduceIte, reduceCtorEq, Int.reduceBEq, Int.reduceBNe, bne_self_eq_false, Int.cast_ofNat_Int, Bool.not_true, Bool.not_false, IntKind.bits, w_nat, w_lit, w_add, w_addl, w_ladd, w_sub, w_subl, w_lsub, w_mul, w_mull, w_lmul, t_div, t_divl, t_mod, t_modl, i_lt, i_ltl, i_llt, i_le, i_lel, i_lle, i_eq, i_eql, i_leq, Nat.zero_le, d_beq, d_bne, d_bytes, byte_at, Int.toNat_natCast, toNat_lit, decide_eq_true, decide_eq_false, if_pos, if_neg, slA_len, slA_idx, slA_cells, flat_slA, one_slA, cells_slA, map_mid, strV_is, hp_get1, hp_get2, hp_get3, hp_set1, hp_set2, hp_set3, hp_old, hp_sold, set_got, set_set, set_next, set_other, bytesL, bytes_all, List.length_map, aapp_nils, aapp_wr, List.flatMap_cons, List.flatMap_nil, Nat.mul_one]
    rw [hp_nil]
    exact hfin
theorem delNd_a {n0 j : Nat} {v : AV} {xs : List AV} (hv : SlAt n0 H 25 3 v xs) (hx : ∀ x ∈ xs, x.cells.length = 3) (hx1 : (xs.flatMap AV.cells).all AV.one = true) (hj : j < xs.length) (hnb : xs.length ≤ 1000000)
    (h : ∀ v' G, SlAt n0 G 25 3 v' (xs.take j ++ xs.drop (j + 1)) → rowId v' = rowId v → G.next = H.next → (∀ x, x ∉ rowId v → G.get x = H.get x) → G.within G.next → K v' G) :
    (ACalls Tryd.prog) 44 [v, .int .i64 (j : Int), .int .i64 ((j + 1 : Nat) : Int)] H K := by
  rcases hv with ⟨rfl, rfl⟩ | ⟨id, gen, rfl, hid, hg⟩
  · exact absurd hj (Nat.not_lt_zero _)
  have hfl := flat_length _ _ hx
  have hlg := H.lt hg
  refine acalls_cap (pre := []) hg (fun cap hc1 hc2 => ?_)
  have hpt : (padC (0 + cap * 3) (xs.flatMap AV.cells)).take (xs.length * 3) = xs.flatMap AV.cells := by
    rw [padC_take _ _ (by omega), List.take_of_length_le (by omega)]
  have hpl := padC_len (0 + cap * 3) (xs.flatMap AV.cells)
  have hset : (H.set id (.row 25 gen (padC (0 + cap * 3) (xs.flatMap AV.cells)))).get id = some (.row 25 gen (padC (0 + cap * 3) (xs.flatMap AV.cells))) := set_got hlg
  have hso : ∀ x, x ≠ id → (H.set id (.row 25 gen (padC (0 + cap * 3) (xs.flatMap AV.cells)))).get x = H.get x := fun x hx => set_other hx
  have hsn : (H.set id (.row 25 gen (padC (0 + cap * 3) (xs.flatMap AV.cells)))).next = H.next := rfl
  have hss : ∀ o, (H.set id (.row 25 gen (padC (0 + cap * 3) (xs.flatMap AV.cells)))).set id o = H.set id o := fun o => set_set _ _ _ _
  generalize padC (0 + cap * 3) (xs.flatMap AV.cells) = C at *
  generalize hHs : H.set id (.row 25 gen C) = Hs at *
  refine acalls_go mo t44 (fun hs hu => ?_)
  have hlgs := Hs.lt hset
  simp only [c44, List.nil_append, go_sem, Nat.reduceLeDiff, Nat.reduceAdd, Nat.reduceSub, Nat.reduceMul, Nat.reduceLT, Int.reduceLT, Int.reduceLE, Int.reduceAdd, Int.reduceSub, Int.reduceMul, Int.reduceToNat, Int.reduceNeg, Int.reduceEq, Nat.reducePow, Int.reducePow, Nat.reduceEqDiff, decide_true, decide_false, reduceIte, reduceCtorEq, Int.reduceBEq, Int.reduceBNe, bne_self_eq_false, Int.cast_ofNat_Int, Bool.not_true, Bool.not_false, IntKind.bits]
  have hys : ((C.drop ((j + 1) * 3)).take ((xs.length - (j + 1)) * 3)) = ((xs.drop (j + 1)).flatMap AV.cells) := by
    have : (C.drop ((j + 1) * 3)).take ((xs.length - (j + 1)) * 3) = (C.take (xs.length * 3)).drop ((j + 1) * 3) := by
      rw [List.drop_take]
      congr 1
      omega
    rw [this, hpt, flat_drop xs (j + 1) hx (by omega)]
  have hyl : ((xs.drop (j + 1)).flatMap AV.cells).length = (xs.length - (j + 1)) * 3 := by
    rw [flat_length _ _ (fun x hx2 => hx x (List.mem_of_mem_drop hx2)), List.length_drop]
  have hy1 : ((xs.drop (j + 1)).flatMap AV.cells).all AV.one = true := by
    rw [List.all_eq_true] at hx1 ⊢
    intro c hc
    obtain ⟨x, hx2, hcx⟩ := List.mem_flatMap.1 hc
    exact hx1 c (List.mem_flatMap.2 ⟨x, List.mem_of_mem_drop hx2, hcx⟩)
  have htj : C.take (j * 3) = (xs.take j).flatMap AV.cells := by
    have : C.take (j * 3) = (C.take (xs.length * 3)).take (j * 3) := by rw [List.take_take, Nat.min_eq_left (by omega)]
    rw [this, hpt, flat_take xs j hx (by omega)]
  have hCj : (C.take (j * 3)).length = j * 3 := by rw [List.length_take]; omega
  have hsum : j + (xs.length - (j + 1)) = xs.length - 1 := by omega
  have hE : ∀ x, acells Hs 3 x = some (xs.length - (j + 1), (xs.drop (j + 1)).flatMap AV.cells) → aapp 25 3 64 (hp Hs []) (.wc id gen 0 j cap 3) x = some (.wc id gen 0 (xs.length - 1) cap 3, hp (Hs.set id (.row 25 gen (C.take (j * 3) ++ (xs.drop (j + 1)).flatMap AV.cells ++ C.drop (j * 3 + (xs.length - (j + 1)) * 3)))) []) := fun x hc => by
    unfold aapp
    rw [hp_nil, hc]
    simp only [hy1, if_true, hset]
    rw [if_pos ⟨trivial, trivial, trivial, by omega, by omega⟩, if_pos (by omega), Nat.zero_add, hp_nil, hyl, hsum]
  have hCl : (C.take (j * 3) ++ (xs.drop (j + 1)).flatMap AV.cells ++ C.drop (j * 3 + (xs.length - (j + 1)) * 3)).length = C.length := by
    rw [List.length_append, List.length_append, hCj, hyl, List.length_drop]
    omega
  have hCt : (C.take (j * 3) ++ (xs.drop (j + 1)).flatMap AV.cells ++ C.drop (j * 3 + (xs.length - (j + 1)) * 3)).take ((xs.length - 1) * 3) = (xs.take j ++ xs.drop (j + 1)).flatMap AV.cells := by
    rw [List.take_append_of_le_length (by rw [List.length_append, hCj, hyl]; omega), List.take_of_length_le (by rw [List.length_append, hCj, hyl]; omega), htj, List.flatMap_append]
  have hCc : ∀ c ∈ C.take (j * 3) ++ (xs.drop (j + 1)).flatMap AV.cells ++ C.drop (j * 3 + (xs.length - (j + 1)) * 3), c ∈ C := fun c hc => by
    rcases List.mem_append.1 hc with q | q
    · rcases List.mem_append.1 q with q | q
      · exact List.mem_of_mem_take q
      · rw [← hys] at q
        exact List.mem_of_mem_drop (List.mem_of_mem_take q)
    · exact List.mem_of_mem_drop q
  generalize C.take (j * 3) ++ (xs.drop (j + 1)).flatMap AV.cells ++ C.drop (j * 3 + (xs.length - (j + 1)) * 3) = D at *
  have hclr : aclear 3 [AV.str (B []), AV.nils, AV.nils] (hp (Hs.set id (.row 25 gen D)) []) (.wc id gen ((xs.length - 1) * 3) (xs.length - (xs.length - 1)) (cap - (xs.length - 1)) 3) = some (hp (Hs.set id (.row 25 gen (D.take ((xs.length - 1) * 3) ++ [AV.str (B []), AV.nils, AV.nils] ++ D.drop ((xs.length - 1) * 3 + 1 * 3)))) []) := by
    have e1 : xs.length - (xs.length - 1) = 1 := by omega
    simp only [aclear, aclearC, hp_nil, set_got hlgs, e1]
    rw [if_pos ⟨trivial, trivial, by omega⟩, set_set]
    simp only [List.replicate_one, List.flatten_cons, List.flatten_nil, List.append_nil]
  have hDt : (D.take ((xs.length - 1) * 3) ++ [AV.str (B []), AV.nils, AV.nils] ++ D.drop ((xs.length - 1) * 3 + 1 * 3)).take ((xs.length - 1) * 3) = (xs.take j ++ xs.drop (j + 1)).flatMap AV.cells := by
    rw [List.append_assoc, List.take_append_of_le_length (by rw [List.length_take]; omega), List.take_take, Nat.min_self, hCt]
  have hDu : AllU Hs.next (D.take ((xs.length - 1) * 3) ++ [AV.str (B []), AV.nils, AV.nils] ++ D.drop ((xs.length - 1) * 3 + 1 * 3)) := fun c hc => by
    have hCu := hs id _ hlgs hset
    rcases List.mem_append.1 hc with q | q
    · rcases List.mem_append.1 q with q | q
      · exact hCu c (hCc c (List.mem_of_mem_take q))
      · simp only [List.mem_cons, List.mem_nil_iff, or_false] at q
        rcases q with rfl | rfl | rfl
        · exact .str _
        · exact .nils
        · exact .nils
    · exact hCu c (hCc c (List.mem_of_mem_drop q))
  have hnl : (xs.take j ++ xs.drop (j + 1)).length = xs.length - 1 := by rw [List.length_append, List.length_take, List.length_drop]; omega
  have hfin : ARet Hs.next K (.wc id gen 0 (xs.length - 1) cap 3) (Hs.set id (.row 25 gen (D.take ((xs.length - 1) * 3) ++ [AV.str (B []), AV.nils, AV.nils] ++ D.drop ((xs.length - 1) * 3 + 1 * 3)))) := by
    refine aret_wcD (Nat.le_refl _) (within_set hs hDu) (set_got hlgs) ?_
    have hw2 : (Hs.set id (.row 25 gen ((xs.take j ++ xs.drop (j + 1)).flatMap AV.cells))).within Hs.next := within_set hs (fun c hc => by
      rw [← hDt] at hc
      exact hDu c (List.mem_of_mem_take hc))
    rw [set_set, hDt]
    rw [hss] at hw2 ⊢
    rw [hsn] at hw2
    exact h _ _ (.inr ⟨id, gen, by rw [hnl], hid, set_got hlg⟩) rfl rfl (fun x hx => set_other (fun e => hx (by rw [e]; exact List.mem_singleton.2 rfl))) hw2
  have d1 : xs.length - 1 < cap := by omega
  by_cases d2 : j + 1 < cap
  · have hc := hE (.wc id gen ((j + 1) * 3) (xs.length - (j + 1)) (cap - (j + 1)) 3) (by rw [cells_wcD hset (by omega), hys])
    simp (maxSteps := 4000000) (disch := (first | omega | (simp only [set_next, List.length_append, List.length_cons, List.length_nil, List.length_take, List.length_drop, List.length_map, List.length_set, List.length_replicate]; omega) | (simp only [set_next, ne_eq, reduceCtorEq, not_false_eq_true]))) only [Nat.sub_zero, or_true, or_false, hc, hclr, d1, d2, go_sem, Nat.reduceLeDiff, Nat.reduceAdd, Nat.reduceSub, Nat.reduceMul, Nat.reduceLT, Int.reduceLT, Int.reduceLE, Int.reduceAdd, Int.reduceSub, Int.reduceMul, Int.reduceToNat, Int.reduceNeg, Int.reduceEq, Nat.reducePow, Int.reducePow, Nat.reduceEqDiff, decide_true, decide_false, reduceIte, reduceCtorEq, Int.reduceBEq, Int.reduceBNe, bne_self_eq_false, Int.cast_ofNat_Int, Bool.not_true, Bool.not_false, IntKind.bits, w_nat, w_lit, w_add, w_addl, w_ladd, w_sub, w_subl, w_lsub, w_mul, w_mull, w_lmul, t_div, t_divl, t_mod, t_modl, i_lt, i_ltl, i_llt, i_le, i_lel, i_lle, i_eq, i_eql, i_leq, Nat.zero_le, d_beq, d_bne, d_bytes, byte_at, Int.toNat_natCast, toNat_lit, decide_eq_true, decide_eq_false, if_pos, if_neg, slA_len, slA_idx, slA_cells, flat_slA, one_slA, cells_slA, map_mid, strV_is, hp_get1, hp_get2, hp_get3, hp_set1, hp_set2, hp_set3, hp_old, hp_sold, set_got, set_set, set_next, set_other, bytesL, bytes_all, List.length_map, aapp_nils, aapp_wr, List.flatMap_cons, List.flatMap_nil, Nat.mul_one]
    rw [hp_nil]
    exact hfin
  · have hz : xs.length - (j + 1) = 0 := by omega
    have hzz : xs.drop (j + 1) = [] := List.drop_of_length_le (by omega)
    have hc := hE .emp (by rw [hz, hzz]; rfl)
    simp (maxSteps := 4000000) (disch := (first | omega | (simp only [set_next, List.length_append, List.length_cons, List.length_nil, List.length_take, List.length_drop, List.length_map, List.length_set, List.length_replicate]; omega) | (simp only [set_next, ne_eq, reduceCtorEq, not_false_eq_true]))) only [Nat.sub_zero, or_true, or_false, hc, hclr, d1, d2, go_sem, Nat.reduceLeDiff, Nat.reduceAdd, Nat.reduceSub, Nat.reduceMul, Nat.reduceLT, Int.reduceLT, Int.reduceLE, Int.reduceAdd, Int.reduceSub, Int.reduceMul, Int.reduceToNat, Int.reduceNeg, Int.reduceEq, Nat.reducePow, Int.reducePow, Nat.reduceEqDiff, decide_true, decide_false, reduceIte, reduceCtorEq, Int.reduceBEq, Int.reduceBNe, bne_self_eq_false, Int.cast_ofNat_Int, Bool.not_true, Bool.not_false, IntKind.bits, w_nat, w_lit, w_add, w_addl, w_ladd, w_sub, w_subl, w_lsub, w_mul, w_mull, w_lmul, t_div, t_divl, t_mod, t_modl, i_lt, i_ltl, i_llt, i_le, i_lel, i_lle, i_eq, i_eql, i_leq, Nat.zero_le, d_beq, d_bne, d_bytes, byte_at, Int.toNat_natCast, toNat_lit, decide_eq_true, decide_eq_false, if_pos, if_neg, slA_len, slA_idx, slA_cells, flat_slA, one_slA, cells_slA, map_mid, strV_is, hp_get1, hp_get2, hp_get3, hp_set1, hp_set2, hp_set3, hp_old, hp_sold, set_got, set_set, set_next, set_other, bytesL, bytes_all, List.length_map, aapp_nils, aapp_wr, List.flatMap_cons, List.flatMap_nil, Nat.mul_one]
    rw [hp_nil]
    exact hfin
end
/-- Without the first one for which p holds. -/
def cutF {α : Type} (p : α → Bool) : List α → Option (List α)
  | [] => none
  | x :: l => if p x = true then some l else (cutF p l).map (x :: ·)
theorem cutF_at {α : Type} (p : α → Bool) : ∀ (l : List α) (i : Nat), (ixOf p l i = -1 ∧ cutF p l = none) ∨ ∃ j, ixOf p l i = ((i + j : Nat) : Int) ∧ j < l.length ∧ cutF p l = some (l.take j ++ l.drop (j + 1))
  | [], i => .inl ⟨rfl, rfl⟩
  | x :: l, i => by
    rw [ixOf, cutF]
    by_cases h : p x = true
    · rw [if_pos h, if_pos h]
      exact .inr ⟨0, rfl, by simp, rfl⟩
    · rw [if_neg h, if_neg h]
      rcases cutF_at p l (i + 1) with ⟨h1, h2⟩ | ⟨j, h1, h2, h3⟩
      · exact .inl ⟨h1, by rw [h2]; rfl⟩
      · exact .inr ⟨j + 1, by rw [h1]; omega, by rw [List.length_cons]; omega, by rw [h3]; rfl⟩
def unsetF (nm : List UInt8) (t : Tr) : Tr × Int := match cutF (fun x : List UInt8 × List UInt8 => decide (x.1 = nm)) t.props with
  | some ps => (.mk t.name 0 ps 0 t.kids, 0)
  | none => (t, 8)
theorem unsetDo {H : AHeap} {i1 : Nat} {nm : List UInt8} (g1 : H.get i1 = some (.row 9 0 [.str (B nm)])) : DoOk H 34 [.ptr i1 0 0] (unsetF nm) := by
  intro t G pid pg po R cs F K hb hrow hlen htk hm hnd hpF hP hp0 hF0 hw h
  have hl1 := H.lt g1
  have e1 := (hP.get i1 hl1).trans g1
  have hg1 := G.lt e1
  have hlp := G.lt hrow
  cases hm with
  | mk name vp vk ps css ks fps m1 m2 m3 m4 m5 =>
  obtain ⟨hR0, hR1, hR2, hRs⟩ := cs_parts htk
  have hpl : ps.length ≤ 1000000 := by cases hb; assumption
  refine acalls_go mo t34 (fun hs hu => ?_)
  simp only [c34, go_sem, Nat.reduceLeDiff, Nat.reduceAdd, Nat.reduceSub, Nat.reduceMul, Nat.reduceLT, Int.reduceLT, Int.reduceLE, Int.reduceAdd, Int.reduceSub, Int.reduceMul, Int.reduceToNat, Int.reduceNeg, Int.reduceEq, Nat.reducePow, Int.reducePow, Nat.reduceEqDiff, decide_true, decide_false, reduceIte, reduceCtorEq, Int.reduceBEq, Int.reduceBNe, bne_self_eq_false, Int.cast_ofNat_Int, Bool.not_true, Bool.not_false, IntKind.bits]
  refine stp e1 ?_
  rw [hp_nil]
  refine prop_a hrow hR1 m1 hpl ?_
  rw [← hp_nil (H := G)]
  rcases cutF_at (fun x : List UInt8 × List UInt8 => decide (x.1 = nm)) ps 0 with ⟨hix, hse⟩ | ⟨j, hix, hj, hse⟩
  · have hf : unsetF nm (.mk name 0 ps 0 ks) = (.mk name 0 ps 0 ks, 8) := by
      unfold unsetF
      rw [show (Tr.mk name 0 ps 0 ks).props = ps from rfl, hse]
    rw [hf] at h
    rw [hix]
    refine stp0 ?_
    rw [hp_nil]
    exact aret_full (Nat.le_refl _) hw (.int _ _) (h G (fun x _ _ _ => rfl) hw (Nat.le_refl _) (fun e => absurd (show (8 : Int) = 0 from e) (by decide)))
  · have hf : unsetF nm (.mk name 0 ps 0 ks) = (.mk name 0 (ps.take j ++ ps.drop (j + 1)) 0 ks, 0) := by
      unfold unsetF
      rw [show (Tr.mk name 0 ps 0 ks).props = ps from rfl, hse]
      rfl
    rw [hf] at h
    rw [hix, Nat.zero_add]
    refine stp (And.intro hrow hR1) ?_
    rw [hp_nil]
    refine delPr_a m1 (props_len ps) (props_one ps) (by rw [List.length_map]; exact hj) (by rw [List.length_map]; exact hpl) (fun v' G' hv' hri hn' hfr hw' => ?_)
    have hmap : (ps.map propV).take j ++ (ps.map propV).drop (j + 1) = (ps.take j ++ ps.drop (j + 1)).map propV := by rw [List.map_append, List.map_take, List.map_drop]
    rw [hmap] at hv'
    have hpv : pid ∉ rowId vp := fun q => hpF (by simp [q])
    have hr' : G'.get pid = some (.row 25 pg R) := (hfr pid hpv).trans hrow
    have hl' := G'.lt hr'
    obtain ⟨x1, x2, x3, x4⟩ := slat_one2 hv'
    rw [← hp_nil (H := G')]
    refine stp (And.intro hr' (And.intro x1 (And.intro x2 x3))) ?_
    rw [hp_nil, row3_1 hRs hlen]
    have hrow' : (G'.set pid (.row 25 pg (R.take po ++ [.str (B name), v', vk] ++ R.drop (po + 3)))).get pid = some (.row 25 pg (R.take po ++ [.str (B name), v', vk] ++ R.drop (po + 3))) := set_got hl'
    have hw2 : (G'.set pid (.row 25 pg (R.take po ++ [.str (B name), v', vk] ++ R.drop (po + 3)))).within G'.next := within_set hw' (fun c hc => by
      have hRu := hw' pid _ hl' hr'
      rcases List.mem_append.1 hc with q | q
      · rcases List.mem_append.1 q with q | q
        · exact hRu c (List.mem_of_mem_take q)
        · simp only [List.mem_cons, List.mem_nil_iff, or_false] at q
          rcases q with rfl | rfl | rfl
          · exact .str _
          · exact x4
          · rw [hn']
            exact (slat_one2 m2).2.2.2
      · exact hRu c (List.mem_of_mem_drop q))
    have hfr' : ∀ x, x < G.next → x ≠ pid → x ∉ rowId vp → (G'.set pid (.row 25 pg (R.take po ++ [.str (B name), v', vk] ++ R.drop (po + 3)))).get x = G.get x := fun x hx hxp hxv => (set_other hxp).trans (hfr x hxv)
    have hnn : G.next ≤ G'.next := by omega
    refine aret_full (G := G'.set pid (.row 25 pg (R.take po ++ [.str (B name), v', vk] ++ R.drop (po + 3)))) hnn hw2 (.int _ _) (h _ (fun x hx hxp hxF => hfr' x hx hxp (fun q => hxF (by simp [q]))) hw2 hnn (fun _ => chg_props m1 m2 m3 m4 m5 hnd hpF hlp hrow' (slat_same hv' (fun x hx => set_other (fun e => hpv (by rw [← e, ← hri]; exact hx)))) (fun x hx => .inl (by rw [← hri]; exact hx)) hnn hw2 hfr'))
section
variable {H : AHeap} {K : AV → AHeap → Prop}
theorem Set_a {t : Tr} {p nm v : List UInt8} (hn : nm.length ≤ 1000) (hv_ : v.length ≤ 100000) (ho : TrOk t) (hb : TrB t) (hbs : TrB t.strip) (hp_ : p.length < 100000)
    (hok : ∀ ns, (downS (setF nm v) ns t.strip).2 = 0 → TrOk (downS (setF nm v) ns t.strip).1) (hns : ∀ ns, partsP p = some ns → ns.length ≤ 100000) (h : ∀ t' : Tr, t'.strip = (changedS (setF nm v) p t.strip).1.strip → K (.tup [t'.V, .int .i64 (changedS (setF nm v) p t.strip).2]) H) :
    (ACalls Tryd.prog) 14 [t.V, .str (B p), .str (B nm), .str (B v)] H K := by
  refine acalls_go mo t14 (fun hs hu => ?_)
  have hVi := Tr.V_is t
  simp only [c14, Tr.V_is, go_sem, Nat.reduceLeDiff, Nat.reduceAdd, Nat.reduceSub, Nat.reduceMul, Nat.reduceLT, Int.reduceLT, Int.reduceLE, Int.reduceAdd, Int.reduceSub, Int.reduceMul, Int.reduceToNat, Int.reduceNeg, Int.reduceEq, Nat.reducePow, Int.reducePow, Nat.reduceEqDiff, decide_true, decide_false, reduceIte, reduceCtorEq, Int.reduceBEq, Int.reduceBNe, bne_self_eq_false, Int.cast_ofNat_Int, Bool.not_true, Bool.not_false, IntKind.bits]
  rw [← hVi]
  refine changed_a (setDo hn hv_ (hp_get _ _ 1) (hp_get _ _ 2)) ho hb hbs hp_ (fun c hc => ?_) hok hns (fun t' ht' => ?_)
  · simp only [List.mem_cons, List.mem_nil_iff, or_false] at hc
    rcases hc with rfl | rfl
    · exact .ptr _ _ _ (by show H.next + 1 < H.next + 4; omega)
    · exact .ptr _ _ _ (by show H.next + 2 < H.next + 4; omega)
  · have hx := h t' ht'
    have hV2 := Tr.V_is t'
    have hVu := Tr.V_u H.next t'
    rw [hV2] at hx hVu
    refine stp hV2 ?_
    refine aret_plain hs ?_ hx
    simp only [u_tup, u_cons, u_nil, u_int, and_true]
    exact hVu
end
end Go.Proofs.YtdknpnmdjjmapaaDoor.AL
