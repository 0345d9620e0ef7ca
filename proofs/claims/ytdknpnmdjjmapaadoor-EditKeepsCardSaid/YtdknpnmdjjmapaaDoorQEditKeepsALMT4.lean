/- Trees in memory: a node that was changed, and what that makes of the node above. -/
import Derived.Test.YtdknpnmdjjmapaaDoorQEditKeepsALTree1
import Derived.Test.YtdknpnmdjjmapaaDoorQEditKeepsALA3
import Derived.Test.YtdknpnmdjjmapaaDoorProg
import Derived.KernelRfl
set_option linter.unusedSimpArgs false
set_option linter.unusedVariables false
set_option maxRecDepth 100000
set_option maxHeartbeats 16000000
namespace Go.Proofs.YtdknpnmdjjmapaaDoor.AL
open Go Go.Proofs
attribute [local go_sem] go_seq go_skip go_region go_regionN go_fregion rgF_some go_cond go_block go_exit go_ret nxt_nil nxt_code nxt_blk nxt_cut leave_nil leave_code leave_cut leave_blk rtn_nil rtn_code rtn_blk rtn_cut cnd_t cnd_f rgn_nil rgY_some rgY_none rgH_some rgP_some retTo_is rgV_func grd_und grd_tt grd_ff grd_tf grd_ft rgn_q rgn_alloc rgn_box rgn_store rgn_lit rgn_litw litCells_nil litCells_cons rgn_app rgn_copy rgn_mk rgn_s2b rgn_call rgn_callv rgn_stop rgn_slice3 aslice3 rgn_slice3l aslice3l rgn_appz rgn_clear rgn_range rgn_next arange acap rgn_put rgn_mkmap rgn_lookup rgn_mapup alookup_nilm alookup_map amapup_map afound_ok afound_no rgn_c rgn_cv qclV_func aloadr rgn_guard post_ret post_normal retY_some ares aresL ares1 AX.ev aput List.getD_cons_zero List.getD_cons_succ List.set_cons_zero List.set_cons_succ List.map_cons List.map_nil aq abin aint astr abeq aconv asame aextract alenS alenL_nils alenL_emp alenL_imm alenL_wr alenL_wc aun apart aload afieldAddr afield aidxSl_wr aidxSl_wc aidxSl_imm aidxPt aidxStr aidxArr abound asliceStr asliceSl asliceArr abest anonil afill astore acells_nils acells_emp acells_imm acells_wr acells_wc acells_str acopy litAll amk as2b anil nilOf aseq aeqs aeqv fits fit1 hp_next hp_push hp_get hp_set List.length_cons List.length_nil List.getElem?_cons_zero List.getElem?_cons_succ List.cons_append List.nil_append List.append_nil List.take_succ_cons List.take_zero List.drop_succ_cons List.drop_zero List.all_cons List.all_nil Option.map_some Option.some.injEq Bool.and_true Bool.true_and Bool.false_eq_true if_true if_false ite_true ite_false Bool.and_self true_and and_true and_self Nat.zero_add Nat.le_refl Int.toNat_natCast beq_self_eq_true eq_self tops_zero tops_succ Int.natCast_nonneg List.take_nil List.drop_nil Option.map_none flat_bool one_bool cells_bool flat_int one_int cells_int flat_str one_str cells_str flat_nilp one_nilp cells_nilp flat_ptr one_ptr cells_ptr flat_nils one_nils cells_nils flat_imm one_imm cells_imm flat_wr one_wr cells_wr flat_wc one_wc cells_wc flat_func one_func cells_func flat_nilf one_nilf cells_nilf flat_map one_map cells_map flat_nilm one_nilm cells_nilm flat_iface one_iface cells_iface flat_nili one_nili cells_nili flat_rd one_rd cells_rd flat_emp one_emp cells_emp flat_byteV one_byteV cells_byteV flat_agg cells_agg one_agg B_size B_list B_ext B_toList B_app List.take_length Int.le_refl
/-- What a change at a node leaves: the node's own cells, in its row, are those of another tree. -/
structure Chg (G : AHeap) (pid pg po : Nat) (R : List AV) (F : List Nat) (t' : Tr) (G' : AHeap) : Prop where
  next : G.next ≤ G'.next
  wit : G'.within G'.next
  frame : ∀ x, x < G.next → x ≠ pid → x ∉ F → G'.get x = G.get x
  tree : ∃ cs' F', G'.get pid = some (.row 25 pg (R.take po ++ cs' ++ R.drop (po + 3))) ∧ MT G' cs' t' F' ∧ F'.Nodup ∧ pid ∉ F' ∧ ∀ x ∈ F', x ∈ F ∨ G.next ≤ x
theorem flat_set : ∀ (css : List (List AV)) (i : Nat) (c : List AV), (∀ x ∈ css, x.length = 3) → i < css.length → css.flatten.take (i * 3) ++ c ++ css.flatten.drop (i * 3 + 3) = (css.set i c).flatten
  | [], i, c, _, h => absurd h (Nat.not_lt_zero _)
  | x :: css, 0, c, hx, _ => by
    have h := hx x List.mem_cons_self
    rw [List.flatten_cons, List.set_cons_zero, List.flatten_cons, Nat.zero_mul, List.take_zero, List.nil_append, Nat.zero_add, List.drop_append_of_le_length (by omega), List.drop_of_length_le (by omega), List.nil_append]
  | x :: css, i + 1, c, hx, hi => by
    have h := hx x List.mem_cons_self
    have ih := flat_set css i c (fun y hy => hx y (List.mem_cons_of_mem _ hy)) (by simpa using hi)
    rw [List.flatten_cons, List.set_cons_succ, List.flatten_cons, ← ih, show (i + 1) * 3 = x.length + i * 3 by omega, List.take_length_add_append, show x.length + i * 3 + 3 = x.length + (i * 3 + 3) by omega, List.drop_length_add_append]
    simp
theorem flat_get3 : ∀ (css : List (List AV)) (i : Nat), (∀ x ∈ css, x.length = 3) → i < css.length → (css.flatten.drop (i * 3)).take 3 = css.getD i []
  | [], i, _, h => absurd h (Nat.not_lt_zero _)
  | x :: css, 0, hx, _ => by
    have h := hx x List.mem_cons_self
    rw [Nat.zero_mul, List.drop_zero, List.flatten_cons, List.take_append_of_le_length (by omega), List.take_of_length_le (by omega)]
    rfl
  | x :: css, i + 1, hx, hi => by
    have h := hx x List.mem_cons_self
    rw [List.flatten_cons, show (i + 1) * 3 = x.length + i * 3 by omega, List.drop_length_add_append, flat_get3 css i (fun y hy => hx y (List.mem_cons_of_mem _ hy)) (by simpa using hi)]
    rfl
theorem flat_len3 : ∀ (css : List (List AV)), (∀ x ∈ css, x.length = 3) → css.flatten.length = css.length * 3
  | [], _ => rfl
  | x :: css, hx => by
    rw [List.flatten_cons, List.length_append, flat_len3 css (fun y hy => hx y (List.mem_cons_of_mem _ hy)), hx x List.mem_cons_self, List.length_cons]
    omega
theorem css_len {G : AHeap} {css : List (List AV)} {ks : List Tr} {fps : List (List Nat)} (hl : css.length = ks.length) (h : ∀ i, i < ks.length → MT G (css.getD i []) (ks.getD i tr0) (fps.getD i [])) : ∀ x ∈ css, x.length = 3 := fun x hx => by
  obtain ⟨j, hj, rfl⟩ := List.getElem_of_mem hx
  have := h j (by omega)
  rw [List.getD_eq_getElem?_getD, List.getElem?_eq_getElem hj] at this
  obtain ⟨_, _, e, _⟩ := mt_cs this
  rw [show (some css[j]).getD [] = css[j] from rfl] at e
  rw [e]
  rfl
theorem getD_set {α : Type} (d : α) (l : List α) (i j : Nat) (a : α) (hi : i < l.length) : (l.set i a).getD j d = if j = i then a else l.getD j d := by
  rw [List.getD_eq_getElem?_getD, List.getElem?_set]
  by_cases h : i = j
  · subst h
    rw [if_pos rfl, if_pos hi, if_pos rfl]
    rfl
  · rw [if_neg h, if_neg (fun e => h e.symm), List.getD_eq_getElem?_getD]
theorem mem_set_fl {fps : List (List Nat)} {i : Nat} {F' : List Nat} {x : Nat} (hi : i < fps.length) (h : x ∈ (fps.set i F').flatten) : x ∈ F' ∨ ∃ j, j ≠ i ∧ j < fps.length ∧ x ∈ fps.getD j [] := by
  obtain ⟨j, hj, hx⟩ := mem_fl h
  rw [List.length_set] at hj
  rw [getD_set [] fps i j F' hi] at hx
  by_cases e : j = i
  · rw [if_pos e] at hx
    exact .inl hx
  · rw [if_neg e] at hx
    exact .inr ⟨j, e, hj, hx⟩
theorem nodup_at : ∀ {fps : List (List Nat)}, fps.flatten.Nodup → ∀ {i j : Nat} {x : Nat}, x ∈ fps.getD i [] → x ∈ fps.getD j [] → i = j
  | [], _, i, j, x, hx, _ => by simp at hx
  | f :: fps, h, i, j, x, hx, hy => by
    rw [List.flatten_cons, List.nodup_append] at h
    obtain ⟨h1, h2, h3⟩ := h
    cases i with
    | zero =>
      cases j with
      | zero => rfl
      | succ j =>
        have hx : x ∈ f := hx
        exact absurd rfl (h3 x hx x (mem_fps (show x ∈ fps.getD j [] from hy)))
    | succ i =>
      cases j with
      | zero =>
        have hy : x ∈ f := hy
        exact absurd rfl (h3 x hy x (mem_fps (show x ∈ fps.getD i [] from hx)))
      | succ j => rw [nodup_at h2 (show x ∈ fps.getD i [] from hx) (show x ∈ fps.getD j [] from hy)]
theorem nodup_set : ∀ {fps : List (List Nat)} {i : Nat} {F' : List Nat}, fps.flatten.Nodup → F'.Nodup → i < fps.length → (∀ x ∈ F', ∀ j, j ≠ i → x ∉ fps.getD j []) → (fps.set i F').flatten.Nodup
  | [], i, _, _, _, h, _ => absurd h (Nat.not_lt_zero _)
  | f :: fps, 0, F', h, h2, _, h3 => by
    rw [List.flatten_cons, List.nodup_append] at h
    rw [List.set_cons_zero, List.flatten_cons, List.nodup_append]
    refine ⟨h2, h.2.1, fun x hx y hy e => ?_⟩
    subst e
    obtain ⟨j, hj, hxj⟩ := mem_fl hy
    exact h3 x hx (j + 1) (by omega) hxj
  | f :: fps, i + 1, F', h, h2, hi, h3 => by
    rw [List.flatten_cons, List.nodup_append] at h
    rw [List.set_cons_succ, List.flatten_cons, List.nodup_append]
    refine ⟨h.1, nodup_set h.2.1 h2 (by simpa using hi) (fun x hx j hj => h3 x hx (j + 1) (by omega)), fun x hx y hy e => ?_⟩
    subst e
    rcases mem_set_fl (by simpa using hi) hy with q | ⟨j, hj, hjl, q⟩
    · exact h3 x q 0 (by omega) hx
    · exact h.2.2 x hx x (mem_fps q) rfl
/-- A kid was changed: so was the node. -/
theorem chg_up {G G' : AHeap} {pid pg po : Nat} {R : List AV} {name : List UInt8} {vp : AV} {ps : List (List UInt8 × List UInt8)} {css : List (List AV)} {ks : List Tr} {fps : List (List Nat)} {idk genk i : Nat} {t' : Tr}
    (hrow : G.get pid = some (.row 25 pg R)) (hcs : R = R.take po ++ [.str (B name), vp, .wr idk genk 0 css.length 3] ++ R.drop (po + 3))
    (m1 : SlAt 0 G 62 2 vp (ps.map propV)) (hk : G.get idk = some (.row 25 genk css.flatten)) (h2 : css.length = ks.length) (h3 : fps.length = ks.length)
    (h4 : ∀ j, j < ks.length → MT G (css.getD j []) (ks.getD j tr0) (fps.getD j [])) (hnd : (rowId vp ++ [idk] ++ fps.flatten).Nodup) (hp_ : pid ∉ rowId vp ++ [idk] ++ fps.flatten) (hi : i < ks.length)
    (hc : Chg G idk genk (i * 3) css.flatten (fps.getD i []) t' G') : Chg G pid pg po R (rowId vp ++ [idk] ++ fps.flatten) (.mk name 0 ps 0 (ks.set i t')) G' := by
  obtain ⟨c1, c2, c3, cs', F', c4, c5, c6, c7, c8⟩ := hc
  have hlp := G.lt hrow
  have hlk := G.lt hk
  have hl3 := css_len h2 h4
  rw [List.append_assoc, List.nodup_append] at hnd
  obtain ⟨_, hnd2, hnd3⟩ := hnd
  rw [List.nodup_append] at hnd2
  obtain ⟨_, hnd4, hnd5⟩ := hnd2
  have hpi : pid ≠ idk := fun e => hp_ (by simp [e])
  have hpF : ∀ j, pid ∉ fps.getD j [] := fun j q => hp_ (List.mem_append_right _ (mem_fps q))
  have hkF : ∀ j, idk ∉ fps.getD j [] := fun j q => hnd5 idk (List.mem_singleton.2 rfl) idk (mem_fps q) rfl
  have hvF : ∀ x ∈ rowId vp, x ≠ idk ∧ ∀ j, x ∉ fps.getD j [] := fun x hx => ⟨fun e => hnd3 x hx x (by simp [e]) rfl, fun j q => hnd3 x hx x (List.mem_append_right _ (mem_fps q)) rfl⟩
  have hF' : ∀ x ∈ F', ∀ j, j ≠ i → x ∉ fps.getD j [] := fun x hx j hj q => by
    rcases c8 x hx with g | g
    · exact hj (nodup_at hnd4 q g)
    · by_cases hjl : j < ks.length
      · have := mt_lt (h4 j hjl) x q
        omega
      · rw [List.getD_eq_getElem?_getD, List.getElem?_eq_none (by omega)] at q
        cases q
  rw [flat_set css i cs' hl3 (by omega)] at c4
  have hget : ∀ x, x < G.next → x ≠ idk → x ∉ fps.getD i [] → G'.get x = G.get x := c3
  have hrowp : G'.get pid = some (.row 25 pg R) := (hget pid hlp hpi (hpF i)).trans hrow
  refine ⟨c1, c2, fun x hx hxp hxF => hget x hx (fun e => hxF (by simp [e])) (fun q => hxF (List.mem_append_right _ (mem_fps q))), [.str (B name), vp, .wr idk genk 0 css.length 3], rowId vp ++ [idk] ++ (fps.set i F').flatten, by rw [← hcs]; exact hrowp, ?_, ?_, ?_, fun x hx => ?_⟩
  · refine MT.mk (G := G') name vp (.wr idk genk 0 css.length 3) ps (css.set i cs') (ks.set i t') (fps.set i F') (slat_same m1 (fun x hx => hget x (rowId_lt m1 hx).1 (hvF x hx).1 ((hvF x hx).2 i))) (.inr ⟨idk, genk, by rw [List.length_map, List.length_set], Nat.zero_le _, by rw [agg_flat]; exact c4⟩) (by rw [List.length_set, List.length_set, h2]) (by rw [List.length_set, List.length_set, h3]) (fun j hj => ?_)
    rw [List.length_set] at hj
    rw [getD_set [] css i j cs' (by omega), getD_set tr0 ks i j t' hi, getD_set [] fps i j F' (by omega)]
    by_cases e : j = i
    · rw [if_pos e, if_pos e, if_pos e]
      exact c5
    · rw [if_neg e, if_neg e, if_neg e]
      exact mt_same (h4 j hj) (fun x hx => hget x (mt_lt (h4 j hj) x hx) (fun q => hkF j (by rw [← q]; exact hx)) (fun q => e (nodup_at hnd4 hx q)))
  · rw [List.append_assoc, List.nodup_append]
    refine ⟨rowId_nodup vp, ?_, fun x hx y hy e => ?_⟩
    · rw [List.nodup_append]
      refine ⟨by simp, nodup_set hnd4 c6 (by omega) hF', fun x hx y hy e => ?_⟩
      rw [List.mem_singleton] at hx
      subst hx
      subst e
      rcases mem_set_fl (by omega) hy with q | ⟨j, hj, hjl, q⟩
      · exact c7 q
      · exact hkF j q
    · subst e
      have hxl := (rowId_lt m1 hx).1
      rcases List.mem_append.1 hy with q | q
      · exact (hvF x hx).1 (List.mem_singleton.1 q)
      · rcases mem_set_fl (by omega) q with q | ⟨j, hj, hjl, q⟩
        · rcases c8 x q with g | g
          · exact (hvF x hx).2 i g
          · omega
        · exact (hvF x hx).2 j q
  · intro q
    rcases List.mem_append.1 q with q | q
    · exact hp_ (List.mem_append_left _ q)
    · rcases mem_set_fl (by omega) q with q | ⟨j, hj, hjl, q⟩
      · rcases c8 pid q with g | g
        · exact hpF i g
        · omega
      · exact hpF j q
  · rcases List.mem_append.1 hx with q | q
    · exact .inl (List.mem_append_left _ q)
    · rcases mem_set_fl (by omega) q with q | ⟨j, hj, hjl, q⟩
      · rcases c8 x q with g | g
        · exact .inl (List.mem_append_right _ (mem_fps g))
        · exact .inr g
      · exact .inl (List.mem_append_right _ (mem_fps q))
def c87 : ACode := 
    (.seq 
    (.region [⟨(some 4), (.q (.move (.const (.bool false)))), none⟩]) 
    (.seq 
    (.region [⟨(some 5), (.q (.move (.tmp 0))), none⟩, ⟨(some 6), (.q (.len true (.tmp 5))), none⟩, ⟨(some 7), (.q (.move (.tmp 1))), none⟩, ⟨(some 8), (.q (.len true (.tmp 7))), none⟩, ⟨(some 9), (.q (.bin .geq (.tmp 6) (.tmp 8))), none⟩, ⟨(some 10), (.q (.move (.tmp 9))), none⟩, ⟨(some 11), (.q (.move (.tmp 0))), (some (10, true))⟩, ⟨(some 12), (.q (.move (.tmp 1))), (some (10, true))⟩, ⟨(some 13), (.q (.len true (.tmp 12))), (some (10, true))⟩, ⟨(some 14), (.q (.sliceStr (.tmp 11) none (some (.tmp 13)))), (some (10, true))⟩, ⟨(some 15), (.q (.move (.tmp 1))), (some (10, true))⟩, ⟨(some 16), (.q (.bin .eql (.tmp 14) (.tmp 15))), (some (10, true))⟩, ⟨(some 17), (.q (.pick (.tmp 10) (.tmp 16) (.const (.bool false)))), none⟩, ⟨(some 4), (.q (.move (.tmp 17))), none⟩]) .ret))
theorem t87 : Told Tryd.prog 87 18 c87 [(.tmp 4)] := ⟨Tryd.f87, _, [], Tryd.func87, rfl, by kernel_rfl, rfl, by kernel_rfl, by kernel_rfl⟩
def c71 : ACode := 
    (.seq 
    (.region [⟨(some 4), (.q (.move (.const (.str (B []))))), none⟩, ⟨(some 5), (.q (.move (.const (.bool false)))), none⟩]) 
    (.seq 
    (.seq 
    (.region [⟨(some 6), (.q (.move (.tmp 0))), none⟩, ⟨(some 7), (.q (.move (.tmp 1))), none⟩, ⟨(some 8), (.s (.call 87 [(.tmp 6), (.tmp 7)])), none⟩, ⟨(some 9), (.q (.un .not (.tmp 8))), none⟩]) 
    (.cond (.tmp 9) 
    (.seq 
    (.region [⟨(some 10), (.q (.move (.tmp 0))), none⟩, ⟨(some 4), (.q (.move (.tmp 10))), none⟩, ⟨(some 5), (.q (.move (.const (.bool false)))), none⟩]) .ret) .skip)) 
    (.seq 
    (.region [⟨(some 11), (.q (.move (.tmp 0))), none⟩, ⟨(some 12), (.q (.move (.tmp 1))), none⟩, ⟨(some 13), (.q (.len true (.tmp 12))), none⟩, ⟨(some 14), (.q (.sliceStr (.tmp 11) (some (.tmp 13)) none)), none⟩, ⟨(some 4), (.q (.move (.tmp 14))), none⟩, ⟨(some 5), (.q (.move (.const (.bool true)))), none⟩]) .ret)))
theorem t71 : Told Tryd.prog 71 15 c71 [(.tmp 4), (.tmp 5)] := ⟨Tryd.f71, _, [], Tryd.func71, rfl, by kernel_rfl, rfl, by kernel_rfl, by kernel_rfl⟩
def c59 : ACode := 
    (.seq 
    (.region [⟨(some 4), (.q (.move (.const (.str (B []))))), none⟩, ⟨(some 5), (.q (.move (.const (.bool false)))), none⟩]) 
    (.seq 
    (.region [⟨(some 6), (.q (.move (.tmp 0))), none⟩, ⟨(some 7), (.q (.move (.tmp 1))), none⟩, ⟨(some 8), (.s (.call 71 [(.tmp 6), (.tmp 7)])), none⟩, ⟨(some 9), (.q (.extract 0 (.tmp 8))), none⟩, ⟨(some 10), (.q (.extract 1 (.tmp 8))), none⟩, ⟨(some 4), (.q (.move (.tmp 9))), none⟩, ⟨(some 5), (.q (.move (.tmp 10))), none⟩]) .ret))
theorem t59 : Told Tryd.prog 59 11 c59 [(.tmp 4), (.tmp 5)] := ⟨Tryd.f59, _, [], Tryd.func59, rfl, by kernel_rfl, rfl, by kernel_rfl, by kernel_rfl⟩
def c73 : ACode := 
    (.seq 
    (.region [⟨(some 4), (.q (.move (.const (.int .i64 0)))), none⟩]) 
    (.seq 
    (.seq 
    (.region [⟨(some 6), (.q (.move (.tmp 0))), none⟩, ⟨(some 7), (.q (.len false (.tmp 6))), none⟩, ⟨(some 8), (.q (.move (.const (.int .i64 0)))), none⟩]) 
    (.block 0 
    (.loop 
    (.seq 
    (.region [⟨(some 9), (.q (.bin .lss (.tmp 8) (.tmp 7))), none⟩]) 
    (.seq 
    (.cond (.tmp 9) .skip (.exit 0)) 
    (.seq 
    (.block 1 
    (.seq 
    (.region [⟨(some 10), (.q (.move (.tmp 8))), none⟩, ⟨(some 5), (.q (.move (.tmp 10))), none⟩]) 
    (.seq 
    (.region [⟨(some 11), (.q (.move (.tmp 1))), none⟩, ⟨(some 12), (.q (.move (.tmp 0))), none⟩, ⟨(some 13), (.q (.move (.tmp 5))), none⟩, ⟨(some 14), (.q (.idxSl 1 (.tmp 12) (.tmp 13))), none⟩, ⟨(some 15), (.q (.load false 1 (.tmp 14))), none⟩, ⟨(some 16), (.q (.bin .eql (.tmp 11) (.tmp 15))), none⟩]) 
    (.cond (.tmp 16) 
    (.seq 
    (.region [⟨(some 17), (.q (.move (.tmp 5))), none⟩, ⟨(some 4), (.q (.move (.tmp 17))), none⟩]) .ret) .skip)))) 
    (.region [⟨(some 18), (.q (.bin .add (.tmp 8) (.const (.int .i64 1)))), none⟩, ⟨(some 8), (.q (.move (.tmp 18))), none⟩]))))))) 
    (.seq 
    (.region [⟨(some 4), (.q (.move (.const (.int .i64 (-1))))), none⟩]) .ret)))
theorem t73 : Told Tryd.prog 73 19 c73 [(.tmp 4)] := ⟨Tryd.f73, _, [], Tryd.func73, rfl, by kernel_rfl, rfl, by kernel_rfl, by kernel_rfl⟩
def c61 : ACode := 
    (.seq 
    (.region [⟨(some 4), (.q (.move (.const (.bool false)))), none⟩]) 
    (.seq 
    (.region [⟨(some 5), (.q (.move (.tmp 0))), none⟩, ⟨(some 6), (.q (.move (.tmp 1))), none⟩, ⟨(some 7), (.s (.call 73 [(.tmp 5), (.tmp 6)])), none⟩, ⟨(some 8), (.q (.bin .geq (.tmp 7) (.const (.int .i64 0)))), none⟩, ⟨(some 4), (.q (.move (.tmp 8))), none⟩]) .ret))
theorem t61 : Told Tryd.prog 61 9 c61 [(.tmp 4)] := ⟨Tryd.f61, _, [], Tryd.func61, rfl, by kernel_rfl, rfl, by kernel_rfl, by kernel_rfl⟩
def c62 : ACode := 
    (.seq 
    (.region [⟨(some 4), (.q (.move (.const (.str (B []))))), none⟩]) 
    (.seq 
    (.seq 
    (.region [⟨(some 11), (.q (.move (.tmp 0))), none⟩, ⟨(some 12), (.q (.len false (.tmp 11))), none⟩]) 
    (.block 0 
    (.seq 
    (.region [⟨(some 14), (.q (.bin .eql (.tmp 12) (.const (.int .i64 0)))), none⟩, ⟨(some 13), (.q (.move (.tmp 14))), none⟩]) 
    (.cond (.tmp 13) 
    (.seq 
    (.region [⟨(some 4), (.q (.move (.const (.str (B []))))), none⟩]) .ret) 
    (.seq 
    (.region [⟨(some 16), (.q (.bin .eql (.tmp 12) (.const (.int .i64 1)))), none⟩, ⟨(some 15), (.q (.move (.tmp 16))), none⟩]) 
    (.cond (.tmp 15) 
    (.seq 
    (.region [⟨(some 17), (.q (.move (.tmp 0))), none⟩, ⟨(some 18), (.q (.idxSl 1 (.tmp 17) (.const (.int .i64 0)))), none⟩, ⟨(some 19), (.q (.load false 1 (.tmp 18))), none⟩, ⟨(some 4), (.q (.move (.tmp 19))), none⟩]) .ret) .skip)))))) 
    (.seq 
    (.region [⟨(some 5), (.q (.move (.const (.int .i64 0)))), none⟩]) 
    (.seq 
    (.seq 
    (.region [⟨(some 20), (.q (.move (.tmp 1))), none⟩, ⟨(some 21), (.q (.len true (.tmp 20))), none⟩, ⟨(some 22), (.q (.bin .gtr (.tmp 21) (.const (.int .i64 0)))), none⟩]) 
    (.cond (.tmp 22) 
    (.seq 
    (.seq 
    (.region [⟨(some 23), (.q (.move (.tmp 1))), none⟩, ⟨(some 24), (.q (.len true (.tmp 23))), none⟩, ⟨(some 25), (.q (.move (.tmp 0))), none⟩, ⟨(some 26), (.q (.len false (.tmp 25))), none⟩, ⟨(some 27), (.q (.bin .sub (.tmp 26) (.const (.int .i64 1)))), none⟩, ⟨(some 28), (.q (.bin .quo (.const (.int .i64 9223372036854775807)) (.tmp 27))), none⟩, ⟨(some 29), (.q (.bin .geq (.tmp 24) (.tmp 28))), none⟩]) 
    (.cond (.tmp 29) 
    (.region [⟨(some 30), (.q (.iface 9 (.const (.str (B [115, 116, 114, 105, 110, 103, 115, 58, 32, 74, 111, 105, 110, 32, 111, 117, 116, 112, 117, 116, 32, 108, 101, 110, 103, 116, 104, 32, 111, 118, 101, 114, 102, 108, 111, 119]))))), none⟩, ⟨none, (.s .stop), none⟩]) .skip)) 
    (.region [⟨(some 31), (.q (.move (.tmp 5))), none⟩, ⟨(some 32), (.q (.move (.tmp 1))), none⟩, ⟨(some 33), (.q (.len true (.tmp 32))), none⟩, ⟨(some 34), (.q (.move (.tmp 0))), none⟩, ⟨(some 35), (.q (.len false (.tmp 34))), none⟩, ⟨(some 36), (.q (.bin .sub (.tmp 35) (.const (.int .i64 1)))), none⟩, ⟨(some 37), (.q (.bin .mul (.tmp 33) (.tmp 36))), none⟩, ⟨(some 38), (.q (.bin .add (.tmp 31) (.tmp 37))), none⟩, ⟨(some 5), (.q (.move (.tmp 38))), none⟩])) .skip)) 
    (.seq 
    (.seq 
    (.region [⟨(some 39), (.q (.move (.tmp 0))), none⟩, ⟨(some 40), (.q (.len false (.tmp 39))), none⟩, ⟨(some 41), (.q (.move (.const (.int .i64 0)))), none⟩]) 
    (.block 1 
    (.loop 
    (.seq 
    (.region [⟨(some 42), (.q (.bin .lss (.tmp 41) (.tmp 40))), none⟩]) 
    (.seq 
    (.cond (.tmp 42) .skip (.exit 1)) 
    (.seq 
    (.block 2 
    (.seq 
    (.region [⟨(some 43), (.q (.idxSl 1 (.tmp 39) (.tmp 41))), none⟩, ⟨(some 44), (.q (.load false 1 (.tmp 43))), none⟩, ⟨(some 7), (.q (.move (.tmp 44))), none⟩]) 
    (.seq 
    (.seq 
    (.region [⟨(some 45), (.q (.move (.tmp 7))), none⟩, ⟨(some 46), (.q (.len true (.tmp 45))), none⟩, ⟨(some 47), (.q (.move (.tmp 5))), none⟩, ⟨(some 48), (.q (.bin .sub (.const (.int .i64 9223372036854775807)) (.tmp 47))), none⟩, ⟨(some 49), (.q (.bin .gtr (.tmp 46) (.tmp 48))), none⟩]) 
    (.cond (.tmp 49) 
    (.region [⟨(some 50), (.q (.iface 9 (.const (.str (B [115, 116, 114, 105, 110, 103, 115, 58, 32, 74, 111, 105, 110, 32, 111, 117, 116, 112, 117, 116, 32, 108, 101, 110, 103, 116, 104, 32, 111, 118, 101, 114, 102, 108, 111, 119]))))), none⟩, ⟨none, (.s .stop), none⟩]) .skip)) 
    (.region [⟨(some 51), (.q (.move (.tmp 5))), none⟩, ⟨(some 52), (.q (.move (.tmp 7))), none⟩, ⟨(some 53), (.q (.len true (.tmp 52))), none⟩, ⟨(some 54), (.q (.bin .add (.tmp 51) (.tmp 53))), none⟩, ⟨(some 5), (.q (.move (.tmp 54))), none⟩])))) 
    (.region [⟨(some 55), (.q (.bin .add (.tmp 41) (.const (.int .i64 1)))), none⟩, ⟨(some 41), (.q (.move (.tmp 55))), none⟩]))))))) 
    (.seq 
    (.region [⟨(some 8), (.s (.alloc 102 [.nilp, .nils])), none⟩]) 
    (.seq 
    (.region [⟨(some 56), (.q (.move (.tmp 5))), none⟩, ⟨(some 57), (.s (.call 74 [(.tmp 8), (.tmp 56)])), none⟩]) 
    (.seq 
    (.region [⟨(some 58), (.q (.move (.tmp 0))), none⟩, ⟨(some 59), (.q (.idxSl 1 (.tmp 58) (.const (.int .i64 0)))), none⟩, ⟨(some 60), (.q (.load false 1 (.tmp 59))), none⟩, ⟨(some 61), (.s (.call 75 [(.tmp 8), (.tmp 60)])), none⟩]) 
    (.seq 
    (.seq 
    (.region [⟨(some 62), (.q (.move (.tmp 0))), none⟩, ⟨(some 63), (.q (.sliceSl 1 (.tmp 62) (some (.const (.int .i64 1))) none)), none⟩, ⟨(some 64), (.q (.len false (.tmp 63))), none⟩, ⟨(some 65), (.q (.move (.const (.int .i64 0)))), none⟩]) 
    (.block 3 
    (.loop 
    (.seq 
    (.region [⟨(some 66), (.q (.bin .lss (.tmp 65) (.tmp 64))), none⟩]) 
    (.seq 
    (.cond (.tmp 66) .skip (.exit 3)) 
    (.seq 
    (.block 4 
    (.seq 
    (.region [⟨(some 67), (.q (.idxSl 1 (.tmp 63) (.tmp 65))), none⟩, ⟨(some 68), (.q (.load false 1 (.tmp 67))), none⟩, ⟨(some 10), (.q (.move (.tmp 68))), none⟩]) 
    (.seq 
    (.region [⟨(some 69), (.q (.move (.tmp 1))), none⟩, ⟨(some 70), (.s (.call 75 [(.tmp 8), (.tmp 69)])), none⟩]) 
    (.region [⟨(some 71), (.q (.move (.tmp 10))), none⟩, ⟨(some 72), (.s (.call 75 [(.tmp 8), (.tmp 71)])), none⟩])))) 
    (.region [⟨(some 73), (.q (.bin .add (.tmp 65) (.const (.int .i64 1)))), none⟩, ⟨(some 65), (.q (.move (.tmp 73))), none⟩]))))))) 
    (.seq 
    (.region [⟨(some 74), (.s (.call 76 [(.tmp 8)])), none⟩, ⟨(some 4), (.q (.move (.tmp 74))), none⟩]) .ret))))))))))
theorem t62 : Told Tryd.prog 62 75 c62 [(.tmp 4)] := ⟨Tryd.f62, _, [], Tryd.func62, rfl, by kernel_rfl, rfl, by kernel_rfl, by kernel_rfl⟩
def c42 : ACode := 
    (.seq 
    (.region [⟨(some 4), (.q (.move (.const (.int .i64 0)))), none⟩]) 
    (.seq 
    (.seq 
    (.region [⟨(some 6), (.q (.move (.tmp 0))), none⟩, ⟨(some 7), (.q (.len false (.tmp 6))), none⟩, ⟨(some 8), (.q (.move (.const (.int .i64 0)))), none⟩]) 
    (.block 0 
    (.loop 
    (.seq 
    (.region [⟨(some 9), (.q (.bin .lss (.tmp 8) (.tmp 7))), none⟩]) 
    (.seq 
    (.cond (.tmp 9) .skip (.exit 0)) 
    (.seq 
    (.block 1 
    (.seq 
    (.region [⟨(some 10), (.q (.move (.tmp 8))), none⟩, ⟨(some 5), (.q (.move (.tmp 10))), none⟩]) 
    (.seq 
    (.region [⟨(some 11), (.q (.move (.tmp 1))), none⟩, ⟨(some 12), (.q (.move (.tmp 0))), none⟩, ⟨(some 13), (.q (.move (.tmp 5))), none⟩, ⟨(some 14), (.q (.idxSl 3 (.tmp 12) (.tmp 13))), none⟩, ⟨(some 15), (.q (.load true 3 (.tmp 14))), none⟩, ⟨(some 16), (.s (.callv (.tmp 11) [(.tmp 15)])), none⟩]) 
    (.cond (.tmp 16) 
    (.seq 
    (.region [⟨(some 17), (.q (.move (.tmp 5))), none⟩, ⟨(some 4), (.q (.move (.tmp 17))), none⟩]) .ret) .skip)))) 
    (.region [⟨(some 18), (.q (.bin .add (.tmp 8) (.const (.int .i64 1)))), none⟩, ⟨(some 8), (.q (.move (.tmp 18))), none⟩]))))))) 
    (.seq 
    (.region [⟨(some 4), (.q (.move (.const (.int .i64 (-1))))), none⟩]) .ret)))
theorem t42 : Told Tryd.prog 42 19 c42 [(.tmp 4)] := ⟨Tryd.f42, _, [], Tryd.func42, rfl, by kernel_rfl, rfl, by kernel_rfl, by kernel_rfl⟩
def c55 : ACode := 
    (.seq 
    (.region [⟨(some 4), (.q (.move (.const (.int .i64 0)))), none⟩]) 
    (.seq 
    (.seq 
    (.region [⟨(some 6), (.q (.move (.tmp 0))), none⟩, ⟨(some 7), (.q (.len false (.tmp 6))), none⟩, ⟨(some 8), (.q (.move (.const (.int .i64 0)))), none⟩]) 
    (.block 0 
    (.loop 
    (.seq 
    (.region [⟨(some 9), (.q (.bin .lss (.tmp 8) (.tmp 7))), none⟩]) 
    (.seq 
    (.cond (.tmp 9) .skip (.exit 0)) 
    (.seq 
    (.block 1 
    (.seq 
    (.region [⟨(some 10), (.q (.move (.tmp 8))), none⟩, ⟨(some 5), (.q (.move (.tmp 10))), none⟩]) 
    (.seq 
    (.region [⟨(some 11), (.q (.move (.tmp 1))), none⟩, ⟨(some 12), (.q (.move (.tmp 0))), none⟩, ⟨(some 13), (.q (.move (.tmp 5))), none⟩, ⟨(some 14), (.q (.idxSl 2 (.tmp 12) (.tmp 13))), none⟩, ⟨(some 15), (.q (.load true 2 (.tmp 14))), none⟩, ⟨(some 16), (.s (.callv (.tmp 11) [(.tmp 15)])), none⟩]) 
    (.cond (.tmp 16) 
    (.seq 
    (.region [⟨(some 17), (.q (.move (.tmp 5))), none⟩, ⟨(some 4), (.q (.move (.tmp 17))), none⟩]) .ret) .skip)))) 
    (.region [⟨(some 18), (.q (.bin .add (.tmp 8) (.const (.int .i64 1)))), none⟩, ⟨(some 8), (.q (.move (.tmp 18))), none⟩]))))))) 
    (.seq 
    (.region [⟨(some 4), (.q (.move (.const (.int .i64 (-1))))), none⟩]) .ret)))
theorem t55 : Told Tryd.prog 55 19 c55 [(.tmp 4)] := ⟨Tryd.f55, _, [], Tryd.func55, rfl, by kernel_rfl, rfl, by kernel_rfl, by kernel_rfl⟩
def c39 : ACode := 
    (.seq 
    (.region [⟨(some 2), (.q (.move (.const .nils))), none⟩, ⟨(some 3), (.q (.move (.const (.bool false)))), none⟩]) 
    (.seq 
    (.seq 
    (.region [⟨(some 7), (.q (.move (.tmp 0))), none⟩, ⟨(some 8), (.q (.bin .eql (.tmp 7) (.const (.str (B [47]))))), none⟩]) 
    (.cond (.tmp 8) 
    (.seq 
    (.region [⟨(some 2), (.q (.move (.const .nils))), none⟩, ⟨(some 3), (.q (.move (.const (.bool true)))), none⟩]) .ret) .skip)) 
    (.seq 
    (.region [⟨(some 10), (.q (.move (.tmp 0))), none⟩, ⟨(some 11), (.s (.call 59 [(.tmp 10), (.const (.str (B [47])))])), none⟩, ⟨(some 9), (.q (.move (.tmp 11))), none⟩, ⟨(some 12), (.q (.extract 0 (.tmp 9))), none⟩, ⟨(some 13), (.q (.extract 1 (.tmp 9))), none⟩, ⟨(some 4), (.q (.move (.tmp 12))), none⟩, ⟨(some 5), (.q (.move (.tmp 13))), none⟩]) 
    (.seq 
    (.region [⟨(some 14), (.q (.move (.tmp 4))), none⟩, ⟨(some 15), (.s (.call 60 [(.tmp 14), (.const (.str (B [47])))])), none⟩, ⟨(some 6), (.q (.move (.tmp 15))), none⟩]) 
    (.seq 
    (.seq 
    (.region [⟨(some 16), (.q (.move (.tmp 5))), none⟩, ⟨(some 17), (.q (.un .not (.tmp 16))), none⟩, ⟨(some 18), (.q (.move (.tmp 17))), none⟩, ⟨(some 19), (.q (.move (.tmp 6))), (some (18, false))⟩, ⟨(some 20), (.q (.len false (.tmp 19))), (some (18, false))⟩, ⟨(some 21), (.q (.bin .geq (.tmp 20) (.const (.int .i64 8)))), (some (18, false))⟩, ⟨(some 22), (.q (.pick (.tmp 18) (.const (.bool true)) (.tmp 21))), none⟩, ⟨(some 23), (.q (.move (.tmp 22))), none⟩, ⟨(some 24), (.q (.move (.tmp 6))), (some (23, false))⟩, ⟨(some 25), (.s (.call 61 [(.tmp 24), (.const (.str (B [])))])), (some (23, false))⟩, ⟨(some 26), (.q (.pick (.tmp 23) (.const (.bool true)) (.tmp 25))), none⟩]) 
    (.cond (.tmp 26) 
    (.seq 
    (.region [⟨(some 2), (.q (.move (.const .nils))), none⟩, ⟨(some 3), (.q (.move (.const (.bool false)))), none⟩]) .ret) .skip)) 
    (.seq 
    (.region [⟨(some 27), (.q (.move (.tmp 6))), none⟩, ⟨(some 2), (.q (.move (.tmp 27))), none⟩, ⟨(some 3), (.q (.move (.const (.bool true)))), none⟩]) .ret))))))
theorem t39 : Told Tryd.prog 39 28 c39 [(.tmp 2), (.tmp 3)] := ⟨Tryd.f39, _, [], Tryd.func39, rfl, by kernel_rfl, rfl, by kernel_rfl, by kernel_rfl⟩
def c40 : ACode := 
    (.seq 
    (.region [⟨(some 2), (.q (.move (.const (.str (B []))))), none⟩]) 
    (.seq 
    (.region [⟨(some 3), (.q (.move (.tmp 0))), none⟩, ⟨(some 4), (.s (.call 62 [(.tmp 3), (.const (.str (B [47])))])), none⟩, ⟨(some 5), (.q (.bin .add (.const (.str (B [47]))) (.tmp 4))), none⟩, ⟨(some 2), (.q (.move (.tmp 5))), none⟩]) .ret))
theorem t40 : Told Tryd.prog 40 6 c40 [(.tmp 2)] := ⟨Tryd.f40, _, [], Tryd.func40, rfl, by kernel_rfl, rfl, by kernel_rfl, by kernel_rfl⟩
def c38 : ACode := 
    (.seq 
    (.region [⟨(some 2), (.s (.box 25 (.tmp 0))), none⟩, ⟨(some 3), (.s (.box 9 (.tmp 1))), none⟩, ⟨(some 4), (.s (.alloc 25 [(.str (B [])), .nils, .nils])), none⟩, ⟨(some 5), (.q (.move (.const (.bool false)))), none⟩]) 
    (.seq 
    (.region [⟨(some 7), (.q (.fieldAddr 2 (.tmp 2))), none⟩, ⟨(some 8), (.q (.load false 1 (.tmp 7))), none⟩, ⟨(some 9), (.q (.mkFunc (.func 58) [] [(.tmp 3)])), none⟩, ⟨(some 10), (.s (.call 42 [(.tmp 8), (.tmp 9)])), none⟩, ⟨(some 6), (.q (.move (.tmp 10))), none⟩]) 
    (.seq 
    (.seq 
    (.region [⟨(some 11), (.q (.move (.tmp 6))), none⟩, ⟨(some 12), (.q (.bin .lss (.tmp 11) (.const (.int .i64 0)))), none⟩]) 
    (.cond (.tmp 12) 
    (.seq 
    (.region [⟨(some 13), (.q (.build [(.str (B [])), .nils, .nils] [])), none⟩, ⟨none, (.s (.store 3 (.tmp 4) (.tmp 13))), none⟩, ⟨(some 5), (.q (.move (.const (.bool false)))), none⟩]) .ret) .skip)) 
    (.seq 
    (.region [⟨(some 14), (.q (.fieldAddr 2 (.tmp 2))), none⟩, ⟨(some 15), (.q (.load false 1 (.tmp 14))), none⟩, ⟨(some 16), (.q (.move (.tmp 6))), none⟩, ⟨(some 17), (.q (.idxSl 3 (.tmp 15) (.tmp 16))), none⟩, ⟨(some 18), (.q (.load true 3 (.tmp 17))), none⟩, ⟨none, (.s (.store 3 (.tmp 4) (.tmp 18))), none⟩, ⟨(some 5), (.q (.move (.const (.bool true)))), none⟩]) .ret))))
theorem t38 : Told Tryd.prog 38 19 c38 [(.cell 4 true 3), (.tmp 5)] := ⟨Tryd.f38, _, [], Tryd.func38, rfl, by kernel_rfl, rfl, by kernel_rfl, by kernel_rfl⟩
def c58 : ACode := 
    (.seq 
    (.region [⟨(some 2), (.s (.box 25 (.tmp 0))), none⟩, ⟨(some 3), (.q (.move (.const (.bool false)))), none⟩]) 
    (.seq 
    (.region [⟨(some 4), (.q (.fieldAddr 0 (.tmp 2))), none⟩, ⟨(some 5), (.q (.load false 1 (.tmp 4))), none⟩, ⟨(some 6), (.q (.load false 1 (.tmp 1))), none⟩, ⟨(some 7), (.q (.bin .eql (.tmp 5) (.tmp 6))), none⟩, ⟨(some 3), (.q (.move (.tmp 7))), none⟩]) .ret))
theorem t58 : Told Tryd.prog 58 8 c58 [(.tmp 3)] := ⟨Tryd.f58, _, [], Tryd.func58, rfl, by kernel_rfl, rfl, by kernel_rfl, by kernel_rfl⟩
def c45 : ACode := 
    (.seq 
    (.region [⟨(some 2), (.s (.box 25 (.tmp 0))), none⟩, ⟨(some 4), (.s (.alloc 25 [(.str (B [])), .nils, .nils])), none⟩, ⟨(some 5), (.q (.move (.const (.bool false)))), none⟩]) 
    (.seq 
    (.region [⟨(some 11), (.q (.move (.tmp 1))), none⟩, ⟨(some 12), (.s (.call 39 [(.tmp 11)])), none⟩, ⟨(some 10), (.q (.move (.tmp 12))), none⟩, ⟨(some 13), (.q (.extract 0 (.tmp 10))), none⟩, ⟨(some 14), (.q (.extract 1 (.tmp 10))), none⟩, ⟨(some 6), (.q (.move (.tmp 13))), none⟩, ⟨(some 7), (.q (.move (.tmp 14))), none⟩]) 
    (.seq 
    (.seq 
    (.region [⟨(some 15), (.q (.move (.tmp 6))), none⟩, ⟨(some 16), (.q (.len false (.tmp 15))), none⟩, ⟨(some 17), (.q (.move (.const (.int .i64 0)))), none⟩]) 
    (.block 0 
    (.loop 
    (.seq 
    (.region [⟨(some 18), (.q (.bin .lss (.tmp 17) (.tmp 16))), none⟩]) 
    (.seq 
    (.cond (.tmp 18) .skip (.exit 0)) 
    (.seq 
    (.block 1 
    (.seq 
    (.region [⟨(some 19), (.q (.idxSl 1 (.tmp 15) (.tmp 17))), none⟩, ⟨(some 20), (.q (.load false 1 (.tmp 19))), none⟩, ⟨(some 9), (.q (.move (.tmp 20))), none⟩]) 
    (.seq 
    (.region [⟨(some 21), (.q (.move (.tmp 7))), none⟩]) 
    (.cond (.tmp 21) 
    (.region [⟨(some 23), (.q (.load true 3 (.tmp 2))), none⟩, ⟨(some 24), (.q (.move (.tmp 9))), none⟩, ⟨(some 25), (.s (.call 38 [(.tmp 23), (.tmp 24)])), none⟩, ⟨(some 22), (.q (.move (.tmp 25))), none⟩, ⟨(some 26), (.q (.extract 0 (.tmp 22))), none⟩, ⟨(some 27), (.q (.extract 1 (.tmp 22))), none⟩, ⟨none, (.s (.store 3 (.tmp 2) (.tmp 26))), none⟩, ⟨(some 7), (.q (.move (.tmp 27))), none⟩]) .skip)))) 
    (.region [⟨(some 28), (.q (.bin .add (.tmp 17) (.const (.int .i64 1)))), none⟩, ⟨(some 17), (.q (.move (.tmp 28))), none⟩]))))))) 
    (.seq 
    (.seq 
    (.region [⟨(some 29), (.q (.move (.tmp 7))), none⟩, ⟨(some 30), (.q (.un .not (.tmp 29))), none⟩]) 
    (.cond (.tmp 30) 
    (.seq 
    (.region [⟨(some 31), (.q (.build [(.str (B [])), .nils, .nils] [])), none⟩, ⟨none, (.s (.store 3 (.tmp 4) (.tmp 31))), none⟩, ⟨(some 5), (.q (.move (.const (.bool false)))), none⟩]) .ret) .skip)) 
    (.seq 
    (.region [⟨(some 32), (.q (.load true 3 (.tmp 2))), none⟩, ⟨none, (.s (.store 3 (.tmp 4) (.tmp 32))), none⟩, ⟨(some 5), (.q (.move (.const (.bool true)))), none⟩]) .ret)))))
theorem t45 : Told Tryd.prog 45 33 c45 [(.cell 4 true 3), (.tmp 5)] := ⟨Tryd.f45, _, [], Tryd.func45, rfl, by kernel_rfl, rfl, by kernel_rfl, by kernel_rfl⟩
def c28 : ACode := 
    (.seq 
    (.region [⟨(some 2), (.q (.move (.const .nils))), none⟩, ⟨(some 3), (.q (.move (.const (.bool false)))), none⟩]) 
    (.seq 
    (.seq 
    (.region [⟨(some 7), (.q (.move (.tmp 0))), none⟩, ⟨(some 8), (.q (.bin .eql (.tmp 7) (.const (.str (B [47]))))), none⟩]) 
    (.cond (.tmp 8) 
    (.seq 
    (.region [⟨(some 2), (.q (.move (.const .nils))), none⟩, ⟨(some 3), (.q (.move (.const (.bool true)))), none⟩]) .ret) .skip)) 
    (.seq 
    (.seq 
    (.region [⟨(some 9), (.q (.move (.tmp 0))), none⟩, ⟨(some 10), (.q (.bin .eql (.tmp 9) (.const (.str (B []))))), none⟩, ⟨(some 11), (.q (.move (.tmp 10))), none⟩, ⟨(some 12), (.q (.move (.tmp 0))), (some (11, false))⟩, ⟨(some 13), (.q (.idxStr (.tmp 12) (.const (.int .i64 0)))), (some (11, false))⟩, ⟨(some 14), (.q (.bin .neq (.tmp 13) (.const (.int .u8 47)))), (some (11, false))⟩, ⟨(some 15), (.q (.pick (.tmp 11) (.const (.bool true)) (.tmp 14))), none⟩]) 
    (.cond (.tmp 15) 
    (.seq 
    (.region [⟨(some 2), (.q (.move (.const .nils))), none⟩, ⟨(some 3), (.q (.move (.const (.bool false)))), none⟩]) .ret) .skip)) 
    (.seq 
    (.region [⟨(some 4), (.q (.move (.const .nils))), none⟩]) 
    (.seq 
    (.region [⟨(some 5), (.q (.move (.const (.int .i64 1)))), none⟩]) 
    (.seq 
    (.seq 
    (.region [⟨(some 6), (.q (.move (.const (.int .i64 1)))), none⟩]) 
    (.block 0 
    (.loop 
    (.seq 
    (.seq 
    (.region [⟨(some 16), (.q (.move (.tmp 6))), none⟩, ⟨(some 17), (.q (.move (.tmp 0))), none⟩, ⟨(some 18), (.q (.len true (.tmp 17))), none⟩, ⟨(some 19), (.q (.bin .leq (.tmp 16) (.tmp 18))), none⟩]) 
    (.cond (.tmp 19) .skip (.exit 0))) 
    (.seq 
    (.block 1 
    (.seq 
    (.seq 
    (.region [⟨(some 22), (.q (.move (.tmp 6))), none⟩, ⟨(some 23), (.q (.move (.tmp 0))), none⟩, ⟨(some 24), (.q (.len true (.tmp 23))), none⟩, ⟨(some 25), (.q (.bin .lss (.tmp 22) (.tmp 24))), none⟩, ⟨(some 26), (.q (.move (.tmp 25))), none⟩, ⟨(some 27), (.q (.move (.tmp 0))), (some (26, true))⟩, ⟨(some 28), (.q (.move (.tmp 6))), (some (26, true))⟩, ⟨(some 29), (.q (.idxStr (.tmp 27) (.tmp 28))), (some (26, true))⟩, ⟨(some 30), (.q (.bin .neq (.tmp 29) (.const (.int .u8 47)))), (some (26, true))⟩, ⟨(some 31), (.q (.pick (.tmp 26) (.tmp 30) (.const (.bool false)))), none⟩]) 
    (.cond (.tmp 31) (.exit 1) .skip)) 
    (.seq 
    (.seq 
    (.region [⟨(some 32), (.q (.move (.tmp 6))), none⟩, ⟨(some 33), (.q (.move (.tmp 5))), none⟩, ⟨(some 34), (.q (.bin .eql (.tmp 32) (.tmp 33))), none⟩, ⟨(some 35), (.q (.move (.tmp 34))), none⟩, ⟨(some 36), (.q (.move (.tmp 4))), (some (35, false))⟩, ⟨(some 37), (.q (.len false (.tmp 36))), (some (35, false))⟩, ⟨(some 38), (.q (.bin .eql (.tmp 37) (.const (.int .i64 7)))), (some (35, false))⟩, ⟨(some 39), (.q (.pick (.tmp 35) (.const (.bool true)) (.tmp 38))), none⟩]) 
    (.cond (.tmp 39) 
    (.seq 
    (.region [⟨(some 2), (.q (.move (.const .nils))), none⟩, ⟨(some 3), (.q (.move (.const (.bool false)))), none⟩]) .ret) .skip)) 
    (.seq 
    (.region [⟨(some 40), (.q (.move (.tmp 4))), none⟩, ⟨(some 41), (.q (.move (.tmp 0))), none⟩, ⟨(some 42), (.q (.move (.tmp 5))), none⟩, ⟨(some 43), (.q (.move (.tmp 6))), none⟩, ⟨(some 44), (.q (.sliceStr (.tmp 41) (some (.tmp 42)) (some (.tmp 43)))), none⟩, ⟨(some 45), (.s (.lit 9 1 [(.tmp 44)])), none⟩, ⟨(some 46), (.s (.app 9 1 16 (.tmp 40) (.tmp 45))), none⟩, ⟨(some 4), (.q (.move (.tmp 46))), none⟩]) 
    (.region [⟨(some 47), (.q (.move (.tmp 6))), none⟩, ⟨(some 48), (.q (.bin .add (.tmp 47) (.const (.int .i64 1)))), none⟩, ⟨(some 5), (.q (.move (.tmp 48))), none⟩]))))) 
    (.region [⟨(some 20), (.q (.move (.tmp 6))), none⟩, ⟨(some 21), (.q (.bin .add (.tmp 20) (.const (.int .i64 1)))), none⟩, ⟨(some 6), (.q (.move (.tmp 21))), none⟩])))))) 
    (.seq 
    (.region [⟨(some 49), (.q (.move (.tmp 4))), none⟩, ⟨(some 2), (.q (.move (.tmp 49))), none⟩, ⟨(some 3), (.q (.move (.const (.bool true)))), none⟩]) .ret)))))))
theorem t28 : Told Tryd.prog 28 50 c28 [(.tmp 2), (.tmp 3)] := ⟨Tryd.f28, _, [], Tryd.func28, rfl, by kernel_rfl, rfl, by kernel_rfl, by kernel_rfl⟩
def c29 : ACode := 
    (.seq 
    (.region [⟨(some 2), (.s (.box 25 (.tmp 0))), none⟩, ⟨(some 4), (.s (.alloc 25 [(.str (B [])), .nils, .nils])), none⟩, ⟨(some 5), (.q (.move (.const (.bool false)))), none⟩]) 
    (.seq 
    (.seq 
    (.region [⟨(some 6), (.q (.move (.const (.int .i64 0)))), none⟩]) 
    (.block 0 
    (.loop 
    (.seq 
    (.seq 
    (.region [⟨(some 7), (.q (.move (.tmp 6))), none⟩, ⟨(some 8), (.q (.fieldAddr 2 (.tmp 2))), none⟩, ⟨(some 9), (.q (.load false 1 (.tmp 8))), none⟩, ⟨(some 10), (.q (.len false (.tmp 9))), none⟩, ⟨(some 11), (.q (.bin .lss (.tmp 7) (.tmp 10))), none⟩]) 
    (.cond (.tmp 11) .skip (.exit 0))) 
    (.seq 
    (.block 1 
    (.seq 
    (.region [⟨(some 14), (.q (.fieldAddr 2 (.tmp 2))), none⟩, ⟨(some 15), (.q (.load false 1 (.tmp 14))), none⟩, ⟨(some 16), (.q (.move (.tmp 6))), none⟩, ⟨(some 17), (.q (.idxSl 3 (.tmp 15) (.tmp 16))), none⟩, ⟨(some 18), (.q (.fieldAddr 0 (.tmp 17))), none⟩, ⟨(some 19), (.q (.load false 1 (.tmp 18))), none⟩, ⟨(some 20), (.q (.move (.tmp 1))), none⟩, ⟨(some 21), (.q (.bin .eql (.tmp 19) (.tmp 20))), none⟩]) 
    (.cond (.tmp 21) 
    (.seq 
    (.region [⟨(some 22), (.q (.fieldAddr 2 (.tmp 2))), none⟩, ⟨(some 23), (.q (.load false 1 (.tmp 22))), none⟩, ⟨(some 24), (.q (.move (.tmp 6))), none⟩, ⟨(some 25), (.q (.idxSl 3 (.tmp 23) (.tmp 24))), none⟩, ⟨(some 26), (.q (.load true 3 (.tmp 25))), none⟩, ⟨none, (.s (.store 3 (.tmp 4) (.tmp 26))), none⟩, ⟨(some 5), (.q (.move (.const (.bool true)))), none⟩]) .ret) .skip))) 
    (.region [⟨(some 12), (.q (.move (.tmp 6))), none⟩, ⟨(some 13), (.q (.bin .add (.tmp 12) (.const (.int .i64 1)))), none⟩, ⟨(some 6), (.q (.move (.tmp 13))), none⟩])))))) 
    (.seq 
    (.region [⟨(some 27), (.q (.build [(.str (B [])), .nils, .nils] [])), none⟩, ⟨none, (.s (.store 3 (.tmp 4) (.tmp 27))), none⟩, ⟨(some 5), (.q (.move (.const (.bool false)))), none⟩]) .ret)))
theorem t29 : Told Tryd.prog 29 28 c29 [(.cell 4 true 3), (.tmp 5)] := ⟨Tryd.f29, _, [], Tryd.func29, rfl, by kernel_rfl, rfl, by kernel_rfl, by kernel_rfl⟩
def c13 : ACode := 
    (.seq 
    (.region [⟨(some 2), (.s (.box 25 (.tmp 0))), none⟩, ⟨(some 4), (.s (.alloc 25 [(.str (B [])), .nils, .nils])), none⟩, ⟨(some 5), (.q (.move (.const (.bool false)))), none⟩]) 
    (.seq 
    (.region [⟨(some 12), (.q (.move (.tmp 1))), none⟩, ⟨(some 13), (.s (.call 28 [(.tmp 12)])), none⟩, ⟨(some 11), (.q (.move (.tmp 13))), none⟩, ⟨(some 14), (.q (.extract 0 (.tmp 11))), none⟩, ⟨(some 15), (.q (.extract 1 (.tmp 11))), none⟩, ⟨(some 6), (.q (.move (.tmp 14))), none⟩, ⟨(some 7), (.q (.move (.tmp 15))), none⟩]) 
    (.seq 
    (.seq 
    (.region [⟨(some 16), (.q (.move (.tmp 7))), none⟩, ⟨(some 17), (.q (.un .not (.tmp 16))), none⟩]) 
    (.cond (.tmp 17) 
    (.seq 
    (.region [⟨(some 18), (.q (.build [(.str (B [])), .nils, .nils] [])), none⟩, ⟨none, (.s (.store 3 (.tmp 4) (.tmp 18))), none⟩, ⟨(some 5), (.q (.move (.const (.bool false)))), none⟩]) .ret) .skip)) 
    (.seq 
    (.seq 
    (.region [⟨(some 8), (.q (.move (.const (.int .i64 0)))), none⟩]) 
    (.block 0 
    (.loop 
    (.seq 
    (.seq 
    (.region [⟨(some 19), (.q (.move (.tmp 8))), none⟩, ⟨(some 20), (.q (.move (.tmp 6))), none⟩, ⟨(some 21), (.q (.len false (.tmp 20))), none⟩, ⟨(some 22), (.q (.bin .lss (.tmp 19) (.tmp 21))), none⟩]) 
    (.cond (.tmp 22) .skip (.exit 0))) 
    (.seq 
    (.block 1 
    (.seq 
    (.regionN 10 [⟨(some 26), (.q (.load true 3 (.tmp 2))), none⟩, ⟨(some 27), (.q (.move (.tmp 6))), none⟩, ⟨(some 28), (.q (.move (.tmp 8))), none⟩, ⟨(some 29), (.q (.idxSl 1 (.tmp 27) (.tmp 28))), none⟩, ⟨(some 30), (.q (.load false 1 (.tmp 29))), none⟩, ⟨(some 9), (.q (.move (.const .top))), none⟩, ⟨(some 31), (.s (.call 29 [(.tmp 26), (.tmp 30)])), none⟩, ⟨(some 25), (.q (.move (.tmp 31))), none⟩, ⟨(some 32), (.q (.extract 0 (.tmp 25))), none⟩, ⟨(some 33), (.q (.extract 1 (.tmp 25))), none⟩, ⟨(some 9), (.s (.put 25 3 (.tmp 32))), none⟩, ⟨(some 10), (.q (.move (.tmp 33))), none⟩]) 
    (.seq 
    (.seq 
    (.region [⟨(some 34), (.q (.move (.tmp 10))), none⟩, ⟨(some 35), (.q (.un .not (.tmp 34))), none⟩]) 
    (.cond (.tmp 35) 
    (.seq 
    (.region [⟨(some 36), (.q (.build [(.str (B [])), .nils, .nils] [])), none⟩, ⟨none, (.s (.store 3 (.tmp 4) (.tmp 36))), none⟩, ⟨(some 5), (.q (.move (.const (.bool false)))), none⟩]) .ret) .skip)) 
    (.region [⟨(some 37), (.q (.load true 3 (.tmp 9))), none⟩, ⟨none, (.s (.store 3 (.tmp 2) (.tmp 37))), none⟩])))) 
    (.region [⟨(some 23), (.q (.move (.tmp 8))), none⟩, ⟨(some 24), (.q (.bin .add (.tmp 23) (.const (.int .i64 1)))), none⟩, ⟨(some 8), (.q (.move (.tmp 24))), none⟩])))))) 
    (.seq 
    (.region [⟨(some 38), (.q (.load true 3 (.tmp 2))), none⟩, ⟨none, (.s (.store 3 (.tmp 4) (.tmp 38))), none⟩, ⟨(some 5), (.q (.move (.const (.bool true)))), none⟩]) .ret)))))
theorem t13 : Told Tryd.prog 13 39 c13 [(.cell 4 true 3), (.tmp 5)] := ⟨Tryd.f13, _, [], Tryd.func13, rfl, by kernel_rfl, rfl, by kernel_rfl, by kernel_rfl⟩
def c15 : ACode := 
    (.seq 
    (.region [⟨(some 2), (.s (.box 25 (.tmp 0))), none⟩, ⟨(some 4), (.q (.move (.const (.str (B []))))), none⟩, ⟨(some 5), (.q (.move (.const (.bool false)))), none⟩]) 
    (.seq 
    (.seq 
    (.region [⟨(some 6), (.q (.move (.const (.int .i64 0)))), none⟩]) 
    (.block 0 
    (.loop 
    (.seq 
    (.seq 
    (.region [⟨(some 7), (.q (.move (.tmp 6))), none⟩, ⟨(some 8), (.q (.fieldAddr 1 (.tmp 2))), none⟩, ⟨(some 9), (.q (.load false 1 (.tmp 8))), none⟩, ⟨(some 10), (.q (.len false (.tmp 9))), none⟩, ⟨(some 11), (.q (.bin .lss (.tmp 7) (.tmp 10))), none⟩]) 
    (.cond (.tmp 11) .skip (.exit 0))) 
    (.seq 
    (.block 1 
    (.seq 
    (.region [⟨(some 14), (.q (.fieldAddr 1 (.tmp 2))), none⟩, ⟨(some 15), (.q (.load false 1 (.tmp 14))), none⟩, ⟨(some 16), (.q (.move (.tmp 6))), none⟩, ⟨(some 17), (.q (.idxSl 2 (.tmp 15) (.tmp 16))), none⟩, ⟨(some 18), (.q (.fieldAddr 0 (.tmp 17))), none⟩, ⟨(some 19), (.q (.load false 1 (.tmp 18))), none⟩, ⟨(some 20), (.q (.move (.tmp 1))), none⟩, ⟨(some 21), (.q (.bin .eql (.tmp 19) (.tmp 20))), none⟩]) 
    (.cond (.tmp 21) 
    (.seq 
    (.region [⟨(some 22), (.q (.fieldAddr 1 (.tmp 2))), none⟩, ⟨(some 23), (.q (.load false 1 (.tmp 22))), none⟩, ⟨(some 24), (.q (.move (.tmp 6))), none⟩, ⟨(some 25), (.q (.idxSl 2 (.tmp 23) (.tmp 24))), none⟩, ⟨(some 26), (.q (.fieldAddr 1 (.tmp 25))), none⟩, ⟨(some 27), (.q (.load false 1 (.tmp 26))), none⟩, ⟨(some 4), (.q (.move (.tmp 27))), none⟩, ⟨(some 5), (.q (.move (.const (.bool true)))), none⟩]) .ret) .skip))) 
    (.region [⟨(some 12), (.q (.move (.tmp 6))), none⟩, ⟨(some 13), (.q (.bin .add (.tmp 12) (.const (.int .i64 1)))), none⟩, ⟨(some 6), (.q (.move (.tmp 13))), none⟩])))))) 
    (.seq 
    (.region [⟨(some 4), (.q (.move (.const (.str (B []))))), none⟩, ⟨(some 5), (.q (.move (.const (.bool false)))), none⟩]) .ret)))
theorem t15 : Told Tryd.prog 15 28 c15 [(.tmp 4), (.tmp 5)] := ⟨Tryd.f15, _, [], Tryd.func15, rfl, by kernel_rfl, rfl, by kernel_rfl, by kernel_rfl⟩
def tFits (t : Tr) : Bool := decide ((tcount 9 t).1 ≤ 64) && decide ((tcount 9 t).2.1 ≤ 256) && decide ((tcount 9 t).2.2 ≤ 8)
theorem trCount_a {t : Tr} (ho : TrOk t) {H : AHeap} {K : AV → AHeap → Prop} (h : K (.tup [.int .i64 (tcount 9 t).1, .int .i64 (tcount 9 t).2.1, .int .i64 (tcount 9 t).2.2]) H) : (ACalls Tryd.prog) 63 [t.V] H K := by
  refine acalls_go mo t63 (fun hs hu => ?_)
  have hVi := Tr.V_is t
  simp only [c63, Tr.V_is, go_sem, Nat.reduceLeDiff, Nat.reduceAdd, Nat.reduceSub, Nat.reduceMul, Nat.reduceLT, Int.reduceLT, Int.reduceLE, Int.reduceAdd, Int.reduceSub, Int.reduceMul, Int.reduceToNat, Int.reduceNeg, Int.reduceEq, Nat.reducePow, Int.reducePow, Nat.reduceEqDiff, decide_true, decide_false, reduceIte, reduceCtorEq, Int.reduceBEq, Int.reduceBNe, bne_self_eq_false, Int.cast_ofNat_Int, Bool.not_true, Bool.not_false, IntKind.bits]
  rw [← hVi]
  refine tcount_a 9 t _ _ (by omega) ho ?_
  generalize tcount 9 t = c at *
  refine stp0 ?_
  exact aret_u hs (h)
theorem trFits_a {t : Tr} (ho : TrOk t) {H : AHeap} {K : AV → AHeap → Prop} (h : K (.bool (tFits t)) H) : (ACalls Tryd.prog) 64 [t.V] H K := by
  refine acalls_go mo t64 (fun hs hu => ?_)
  have hVi := Tr.V_is t
  unfold tFits at h
  simp only [c64, Tr.V_is, go_sem, Nat.reduceLeDiff, Nat.reduceAdd, Nat.reduceSub, Nat.reduceMul, Nat.reduceLT, Int.reduceLT, Int.reduceLE, Int.reduceAdd, Int.reduceSub, Int.reduceMul, Int.reduceToNat, Int.reduceNeg, Int.reduceEq, Nat.reducePow, Int.reducePow, Nat.reduceEqDiff, decide_true, decide_false, reduceIte, reduceCtorEq, Int.reduceBEq, Int.reduceBNe, bne_self_eq_false, Int.cast_ofNat_Int, Bool.not_true, Bool.not_false, IntKind.bits]
  rw [← hVi]
  refine trCount_a ho ?_
  generalize tcount 9 t = c at *
  by_cases h1 : c.1 ≤ 64
  · rw [decide_eq_true h1, Bool.true_and] at h
    by_cases h2 : c.2.1 ≤ 256
    · rw [decide_eq_true h2, Bool.true_and] at h
      refine stp0 ?_
      exact aret_u hs (h)
    · rw [decide_eq_false h2, Bool.false_and] at h
      refine stp0 ?_
      exact aret_u hs (h)
  · rw [decide_eq_false h1, Bool.false_and, Bool.false_and] at h
    refine stp0 ?_
    exact aret_u hs (h)
def accRow (a : Int × Int × Int) : AObj := .row 52 0 [.int .i64 a.1, .int .i64 a.2.1, .int .i64 a.2.2]
theorem accRow_is (a : Int × Int × Int) : accRow a = .row 52 0 [.int .i64 a.1, .int .i64 a.2.1, .int .i64 a.2.2] := rfl
theorem rcount_a : ∀ (l : Nat) (t : Tr) (H : AHeap) (K : AV → AHeap → Prop), l ≤ 100 → TrOk t → K (.agg [.int .i64 (tcount l t).1, .int .i64 (tcount l t).2.1, .int .i64 (tcount l t).2.2]) H → (ACalls Tryd.prog) 52 [t.V, .int .i64 (l : Int)] H K
  | 0, t, H, K, hl, ho, h => by
    refine acalls_go mo t52 (fun hs hu => ?_)
    rw [tcount] at h
    simp only [c52, Tr.V_is, Int.ofNat_zero, Int.natCast_zero, go_sem, Nat.reduceLeDiff, Nat.reduceAdd, Nat.reduceSub, Nat.reduceMul, Nat.reduceLT, Int.reduceLT, Int.reduceLE, Int.reduceAdd, Int.reduceSub, Int.reduceMul, Int.reduceToNat, Int.reduceNeg, Int.reduceEq, Nat.reducePow, Int.reducePow, Nat.reduceEqDiff, decide_true, decide_false, reduceIte, reduceCtorEq, Int.reduceBEq, Int.reduceBNe, bne_self_eq_false, Int.cast_ofNat_Int, Bool.not_true, Bool.not_false, IntKind.bits]
    exact aret_u hs (h)
  | l + 1, t, H, K, hl, ho, h => by
    refine acalls_go mo t52 (fun hs hu => ?_)
    have ih := rcount_a l
    rw [tcount] at h
    have hkl := ho.k
    simp only [c52, Tr.V_is, go_sem, Nat.reduceLeDiff, Nat.reduceAdd, Nat.reduceSub, Nat.reduceMul, Nat.reduceLT, Int.reduceLT, Int.reduceLE, Int.reduceAdd, Int.reduceSub, Int.reduceMul, Int.reduceToNat, Int.reduceNeg, Int.reduceEq, Nat.reducePow, Int.reducePow, Nat.reduceEqDiff, decide_true, decide_false, reduceIte, reduceCtorEq, Int.reduceBEq, Int.reduceBNe, bne_self_eq_false, Int.cast_ofNat_Int, Bool.not_true, Bool.not_false, IntKind.bits]
    refine stp0 ?_
    rw [← hp_nil (H := hp H _)]
    have hH2 : H.next + 2 < (hp H [trRow t, accRow (0, 0, 0), accRow (1, (t.props.length : Int), 0)]).next := by rw [hp_next]; simp
    refine go_loopS mono (σ := AHeap × Nat) (fun z => [(6, .int .i64 (z.2 : Int))]) (fun z => hp z.1 []) (fun z => Past H z.1 ∧ z.2 ≤ t.kids.length ∧ z.1.get (H.next + 0) = some (trRow t) ∧ (∃ o, z.1.get (H.next + 1) = some (accRow o)) ∧ z.1.get (H.next + 2) = some (accRow ((t.kids.take z.2).foldl (cstep (tcount l)) (1, (t.props.length : Int), 0)))) (fun z => t.kids.length - z.2) (hp H [trRow t, accRow (0, 0, 0), accRow (1, (t.props.length : Int), 0)], 0) ?_ rfl ⟨past_hp past_refl _, Nat.zero_le _, hp_get _ _ 0, ⟨_, hp_get _ _ 1⟩, hp_get _ _ 2⟩ (fun z hz J hJ => ?_)
    · exact fgt
    obtain ⟨G, i⟩ := z
    obtain ⟨hG, hil, hg0, ⟨o1, hg1⟩, hg2⟩ := hz
    simp only at hG hil hg0 hg1 hg2
    have hl0 := G.lt hg0
    have hl1 := G.lt hg1
    have hl2 := G.lt hg2
    have hg0' := hg0
    rw [trRow_is] at hg0'
    simp only [blurR_nil, blurR_some, blurR_none, blurC_region, blurC_regionN, blurC_fregion, blurT_nil, blurT_cons, blurC_seq, blurC_both, blurC_cond, blurC_block, blurC_loop, blurC_skip, blurC_exit, blurC_ret, tellS_nil, tellS_cons, List.set_cons_zero, List.set_cons_succ, tops_zero, tops_succ]
    by_cases h1 : i < t.kids.length
    · have ha := tr_at h1
      have hok := ho.ks _ (tr_mem h1)
      have hst := foldl_step (cstep (tcount l)) (1, (t.props.length : Int), 0) tr0 h1
      have hJ2 := fun (G2 : AHeap) (p1 : Past H G2) p2 p3 p4 a' => hJ (G2, i + 1) a' ⟨p1, h1, p2, p3, p4⟩ (by show t.kids.length - (i + 1) < t.kids.length - i; omega)
      clear hJ
      simp only [hst] at hJ2
      generalize t.kids.getD i tr0 = k at *
      generalize (t.kids.take i).foldl (cstep (tcount l)) (1, (t.props.length : Int), 0) = acc at *
      have hVc := Tr.V_cells k
      have hVi := Tr.V_is k
      refine stp (And.intro ha (And.intro hVc hg0')) ?_
      rw [← hVi]
      refine ih _ _ _ (by omega) hok ?_
      unfold cstep at hJ2
      generalize tcount l k = c at *
      have hb : (if acc.2.2 < c.2.2 then AV.int .i64 c.2.2 else AV.int .i64 acc.2.2) = .int .i64 (mxI acc.2.2 c.2.2) := by unfold mxI; split <;> rfl
      have hb2 : (if acc.2.2 < c.2.2 then c.2.2 else acc.2.2) = mxI acc.2.2 c.2.2 := rfl
      rw [accRow_is] at hg2
      refine stp (And.intro hb (And.intro hb2 hg2)) ?_
      simp only [wI, accRow_is] at hJ2
      rw [← hp_nil (H := hp (G.set _ _) _)]
      refine hJ2 _ (past_hp (past_set hG (by omega) _) _) ?_ ⟨o1, ?_⟩ ?_ _ fgt
      · rw [hp_old (by rw [set_next]; omega), set_other (by omega), hg0]
      · rw [hp_old (by rw [set_next]; omega), set_other (by omega), hg1]
        rfl
      · rw [hp_old (by rw [set_next]; omega), set_got (by omega)]
    · rw [List.take_of_length_le (by omega)] at hg2
      generalize t.kids.foldl (cstep (tcount l)) (1, (t.props.length : Int), 0) = acc at *
      simp only [wI] at h
      rw [accRow_is] at hg1 hg2
      refine stp (And.intro hg0' (And.intro hg1 hg2)) ?_
      exact aret_past (past_hp (past_set (past_set hG (by omega) _) (by omega) _) []) hs (by simp only [u_top, u_bool, u_int, u_str, u_nilp, u_nils, u_nilf, u_nilm, u_nili, u_emp, u_byteV, u_ptr, u_wr, u_wc, u_agg, u_tup, u_rd, u_imm, u_func, u_nil, u_cons, u_app, uc_nil, uc_cons, uc_app, u_bytes, uc_bytes, u_ints, uc_ints, cells_bool, cells_int, cells_str, cells_agg, cells_ptr, cells_nils, cells_imm, cells_wr, cells_wc, cells_nilp, cells_nilf, cells_nilm, cells_rd, cells_emp, cells_byteV, cells_func, and_self, and_true, true_and, u_slA, uc_strs, cells_slA, strV_is]) h
theorem rCount_a {t : Tr} (ho : TrOk t) {H : AHeap} {K : AV → AHeap → Prop} (h : K (.agg [.int .i64 (tcount 9 t).1, .int .i64 (tcount 9 t).2.1, .int .i64 (tcount 9 t).2.2]) H) : (ACalls Tryd.prog) 27 [t.V] H K := by
  refine acalls_go mo t27 (fun hs hu => ?_)
  have hVi := Tr.V_is t
  simp only [c27, Tr.V_is, go_sem, Nat.reduceLeDiff, Nat.reduceAdd, Nat.reduceSub, Nat.reduceMul, Nat.reduceLT, Int.reduceLT, Int.reduceLE, Int.reduceAdd, Int.reduceSub, Int.reduceMul, Int.reduceToNat, Int.reduceNeg, Int.reduceEq, Nat.reducePow, Int.reducePow, Nat.reduceEqDiff, decide_true, decide_false, reduceIte, reduceCtorEq, Int.reduceBEq, Int.reduceBNe, bne_self_eq_false, Int.cast_ofNat_Int, Bool.not_true, Bool.not_false, IntKind.bits]
  rw [← hVi]
  refine rcount_a 9 t _ _ (by omega) ho ?_
  generalize tcount 9 t = c at *
  refine stp0 ?_
  exact aret_u hs (h)
theorem rFits_a {t : Tr} (ho : TrOk t) {H : AHeap} {K : AV → AHeap → Prop} (h : K (.bool (tFits t)) H) : (ACalls Tryd.prog) 12 [t.V] H K := by
  refine acalls_go mo t12 (fun hs hu => ?_)
  have hVi := Tr.V_is t
  unfold tFits at h
  simp only [c12, Tr.V_is, go_sem, Nat.reduceLeDiff, Nat.reduceAdd, Nat.reduceSub, Nat.reduceMul, Nat.reduceLT, Int.reduceLT, Int.reduceLE, Int.reduceAdd, Int.reduceSub, Int.reduceMul, Int.reduceToNat, Int.reduceNeg, Int.reduceEq, Nat.reducePow, Int.reducePow, Nat.reduceEqDiff, decide_true, decide_false, reduceIte, reduceCtorEq, Int.reduceBEq, Int.reduceBNe, bne_self_eq_false, Int.cast_ofNat_Int, Bool.not_true, Bool.not_false, IntKind.bits]
  rw [← hVi]
  refine rCount_a ho ?_
  generalize tcount 9 t = c at *
  by_cases h1 : c.1 ≤ 64
  · rw [decide_eq_true h1, Bool.true_and] at h
    by_cases h2 : c.2.1 ≤ 256
    · rw [decide_eq_true h2, Bool.true_and] at h
      refine stp0 ?_
      exact aret_u hs (h)
    · rw [decide_eq_false h2, Bool.false_and] at h
      refine stp0 ?_
      exact aret_u hs (h)
  · rw [decide_eq_false h1, Bool.false_and, Bool.false_and] at h
    refine stp0 ?_
    exact aret_u hs (h)
/-! ### low trees -/
def plow (p : List UInt8 × List UInt8) : Bool := decide (p.1.length ≤ 100) && decide (p.2.length ≤ 300)
def tlow : Nat → Tr → Bool
  | 0, _ => false
  | l + 1, t => decide (t.name.length ≤ 100) && decide (t.props.length ≤ 300) && decide (t.kids.length ≤ 80) && t.props.all plow && t.kids.all (tlow l)
theorem low_a : ∀ (l : Nat) (t : Tr) (H : AHeap) (K : AV → AHeap → Prop), l ≤ 100 → TrOk t → K (.bool (tlow l t)) H → (ACalls Tryd.prog) 19 [t.V, .int .i64 (l : Int)] H K
  | 0, t, H, K, hl, ho, h => by
    refine acalls_go mo t19 (fun hs hu => ?_)
    rw [tlow] at h
    simp only [c19, Tr.V_is, Int.ofNat_zero, Int.natCast_zero, go_sem, Nat.reduceLeDiff, Nat.reduceAdd, Nat.reduceSub, Nat.reduceMul, Nat.reduceLT, Int.reduceLT, Int.reduceLE, Int.reduceAdd, Int.reduceSub, Int.reduceMul, Int.reduceToNat, Int.reduceNeg, Int.reduceEq, Nat.reducePow, Int.reducePow, Nat.reduceEqDiff, decide_true, decide_false, reduceIte, reduceCtorEq, Int.reduceBEq, Int.reduceBNe, bne_self_eq_false, Int.cast_ofNat_Int, Bool.not_true, Bool.not_false, IntKind.bits]
    exact aret_u hs (h)
  | l + 1, t, H, K, hl, ho, h => by
    refine acalls_go mo t19 (fun hs hu => ?_)
    have ih := low_a l
    rw [tlow] at h
    have hkl := ho.k
    have hpl := ho.p
    simp only [c19, Tr.V_is, go_sem, Nat.reduceLeDiff, Nat.reduceAdd, Nat.reduceSub, Nat.reduceMul, Nat.reduceLT, Int.reduceLT, Int.reduceLE, Int.reduceAdd, Int.reduceSub, Int.reduceMul, Int.reduceToNat, Int.reduceNeg, Int.reduceEq, Nat.reducePow, Int.reducePow, Nat.reduceEqDiff, decide_true, decide_false, reduceIte, reduceCtorEq, Int.reduceBEq, Int.reduceBNe, bne_self_eq_false, Int.cast_ofNat_Int, Bool.not_true, Bool.not_false, IntKind.bits]
    by_cases h1 : t.name.length ≤ 100
    · by_cases h2 : t.props.length ≤ 300
      · by_cases h3 : t.kids.length ≤ 80
        · rw [decide_eq_true h1, decide_eq_true h2, decide_eq_true h3, Bool.true_and, Bool.true_and, Bool.true_and] at h
          refine stp0 ?_
          refine go_loopS mono (σ := Nat) (fun i => [(5, .int .i64 (i : Int))]) (fun i => hp H [trRow t]) (fun i => i ≤ t.props.length ∧ (t.props.take i).all plow = true) (fun i => t.props.length - i) 0 ?_ rfl ⟨Nat.zero_le _, rfl⟩ (fun i hi J hJ => ?_)
          · exact fgt
          obtain ⟨hil, hall⟩ := hi
          simp only [blurR_nil, blurR_some, blurR_none, blurC_region, blurC_regionN, blurC_fregion, blurT_nil, blurT_cons, blurC_seq, blurC_both, blurC_cond, blurC_block, blurC_loop, blurC_skip, blurC_exit, blurC_ret, tellS_nil, tellS_cons, List.set_cons_zero, List.set_cons_succ, tops_zero, tops_succ]
          by_cases h4 : i < t.props.length
          · have ha := prop_at h4
            have hst := all_step (p := plow) (d := ([], [])) h4
            have hno := all_stop (p := plow) (n := t.props.length) (d := ([], [])) h4 h4
            have hJ2 : plow (t.props.getD i ([], [])) = true → ∀ a', _ := fun hq a' => hJ (i + 1) a' ⟨h4, by rw [hst, hall, hq]; rfl⟩ (by omega)
            have hstop : plow (t.props.getD i ([], [])) = false → K (.bool false) H := fun hq => by
              have h9 := hno hq
              rw [List.take_length] at h9
              rw [h9, Bool.false_and] at h
              exact h
            clear hJ hst hno h
            generalize t.props.getD i ([], []) = p at *
            unfold plow at hJ2 hstop
            by_cases h5 : p.1.length ≤ 100
            · by_cases h6 : p.2.length ≤ 300
              · refine stp (And.intro ha (And.intro @propV_cells @trRow_is)) ?_
                exact hJ2 (by rw [decide_eq_true h5, decide_eq_true h6]; rfl) _ fgt
              · have h := hstop (by rw [decide_eq_false h6, Bool.and_false])
                refine stp (And.intro ha (And.intro @propV_cells @trRow_is)) ?_
                exact aret_u hs (h)
            · have h := hstop (by rw [decide_eq_false h5, Bool.false_and])
              refine stp (And.intro ha (And.intro @propV_cells @trRow_is)) ?_
              exact aret_u hs (h)
          · rw [List.take_of_length_le (by omega)] at hall
            rw [hall, Bool.true_and] at h
            clear hJ
            refine stp @trRow_is ?_
            refine go_loopS mono (σ := Nat) (fun i => [(6, .int .i64 (i : Int))]) (fun i => hp H [trRow t]) (fun i => i ≤ t.kids.length ∧ (t.kids.take i).all (tlow l) = true) (fun i => t.kids.length - i) 0 ?_ rfl ⟨Nat.zero_le _, rfl⟩ (fun i2 hi J hJ => ?_)
            · exact fgt
            obtain ⟨hil2, hall2⟩ := hi
            simp only [blurR_nil, blurR_some, blurR_none, blurC_region, blurC_regionN, blurC_fregion, blurT_nil, blurT_cons, blurC_seq, blurC_both, blurC_cond, blurC_block, blurC_loop, blurC_skip, blurC_exit, blurC_ret, tellS_nil, tellS_cons, List.set_cons_zero, List.set_cons_succ, tops_zero, tops_succ]
            by_cases h7 : i2 < t.kids.length
            · have ha := tr_at h7
              have hok := ho.ks _ (tr_mem h7)
              have hst := all_step (p := tlow l) (d := tr0) h7
              have hno := all_stop (p := tlow l) (n := t.kids.length) (d := tr0) h7 h7
              generalize t.kids.getD i2 tr0 = k at *
              have hVc := Tr.V_cells k
              have hVi := Tr.V_is k
              refine stp (And.intro ha (And.intro hVc @trRow_is)) ?_
              rw [← hVi]
              refine ih _ _ _ (by omega) hok ?_
              cases h8 : tlow l k with
              | true =>
                refine stp0 ?_
                exact hJ (i2 + 1) _ ⟨h7, by rw [hst, hall2, h8]; rfl⟩ (by omega) fgt
              | false =>
                have h9 := hno h8
                rw [List.take_length] at h9
                rw [h9] at h
                refine stp0 ?_
                exact aret_u hs (h)
            · rw [List.take_of_length_le (by omega)] at hall2
              rw [hall2] at h
              refine stp @trRow_is ?_
              exact aret_u hs (h)
        · rw [decide_eq_false h3, Bool.and_false, Bool.false_and, Bool.false_and] at h
          refine stp0 ?_
          exact aret_u hs (h)
      · rw [decide_eq_false h2, Bool.and_false, Bool.false_and, Bool.false_and, Bool.false_and] at h
        refine stp0 ?_
        exact aret_u hs (h)
    · rw [decide_eq_false h1, Bool.false_and, Bool.false_and, Bool.false_and, Bool.false_and] at h
      refine stp0 ?_
      exact aret_u hs (h)
def szLoop (f : Tr → Nat) : Nat → List Tr → Nat
  | a, [] => a
  | a, k :: ks => if a < 1000 then szLoop f (a + f k) ks else a
def tsize : Nat → Tr → Nat
  | 0, _ => 0
  | l + 1, t => szLoop (tsize l) (1 + t.props.length) t.kids
theorem szLoop_le (f : Tr → Nat) (b : Nat) : ∀ (ks : List Tr) (a : Nat), (∀ k ∈ ks, f k ≤ b) → szLoop f a ks ≤ max a (999 + b)
  | [], a, _ => by rw [szLoop]; omega
  | k :: ks, a, h => by
    rw [szLoop]
    split
    · have := szLoop_le f b ks (a + f k) (fun x hx => h x (by simp [hx]))
      have := h k (by simp)
      omega
    · omega
theorem tsize_le : ∀ (l : Nat) (t : Tr), tlow l t = true → tsize l t ≤ 1000 * l
  | 0, t, h => by rw [tsize]; omega
  | l + 1, t, h => by
    rw [tlow] at h
    simp only [Bool.and_eq_true, decide_eq_true_eq, List.all_eq_true] at h
    have := szLoop_le (tsize l) (1000 * l) t.kids (1 + t.props.length) (fun k hk => tsize_le l k (h.2 k hk))
    rw [tsize]
    omega
theorem size_a : ∀ (l : Nat) (t : Tr) (H : AHeap) (K : AV → AHeap → Prop), l ≤ 100 → TrOk t → tlow l t = true → K (.int .i64 (tsize l t : Int)) H → (ACalls Tryd.prog) 20 [t.V, .int .i64 (l : Int)] H K
  | 0, t, H, K, hl, ho, hw, h => by
    rw [tlow] at hw
    cases hw
  | l + 1, t, H, K, hl, ho, hw, h => by
    refine acalls_go mo t20 (fun hs hu => ?_)
    have ih := size_a l
    rw [tsize] at h
    rw [tlow] at hw
    simp only [Bool.and_eq_true, decide_eq_true_eq, List.all_eq_true] at hw
    obtain ⟨⟨⟨⟨w1, w2⟩, w3⟩, w4⟩, w5⟩ := hw
    simp only [c20, Tr.V_is, go_sem, Nat.reduceLeDiff, Nat.reduceAdd, Nat.reduceSub, Nat.reduceMul, Nat.reduceLT, Int.reduceLT, Int.reduceLE, Int.reduceAdd, Int.reduceSub, Int.reduceMul, Int.reduceToNat, Int.reduceNeg, Int.reduceEq, Nat.reducePow, Int.reducePow, Nat.reduceEqDiff, decide_true, decide_false, reduceIte, reduceCtorEq, Int.reduceBEq, Int.reduceBNe, bne_self_eq_false, Int.cast_ofNat_Int, Bool.not_true, Bool.not_false, IntKind.bits]
    refine stp0 ?_
    refine go_loopS mono (σ := Nat × Nat) (fun z => [(5, .int .i64 (z.1 : Int)), (6, .int .i64 (z.2 : Int))]) (fun z => hp H [trRow t]) (fun z => z.2 ≤ t.kids.length ∧ z.1 ≤ 1000 * (l + 1) ∧ szLoop (tsize l) z.1 (t.kids.drop z.2) = szLoop (tsize l) (1 + t.props.length) t.kids) (fun z => t.kids.length - z.2) (1 + t.props.length, 0) ?_ rfl ⟨Nat.zero_le _, by omega, rfl⟩ (fun z hz J hJ => ?_)
    · exact fgt
    obtain ⟨a, i⟩ := z
    obtain ⟨hil, hal, heq⟩ := hz
    simp only at hil hal heq
    simp only [blurR_nil, blurR_some, blurR_none, blurC_region, blurC_regionN, blurC_fregion, blurT_nil, blurT_cons, blurC_seq, blurC_both, blurC_cond, blurC_block, blurC_loop, blurC_skip, blurC_exit, blurC_ret, tellS_nil, tellS_cons, List.set_cons_zero, List.set_cons_succ, tops_zero, tops_succ]
    by_cases h1 : i < t.kids.length
    · rw [List.drop_eq_getElem_cons h1, szLoop] at heq
      by_cases h2 : a < 1000
      · rw [if_pos h2] at heq
        have he : t.kids[i] = t.kids.getD i tr0 := by rw [List.getD_eq_getElem?_getD, List.getElem?_eq_getElem h1]; rfl
        rw [he] at heq
        have ha := tr_at h1
        have hok := ho.ks _ (tr_mem h1)
        have hlo := w5 _ (tr_mem h1)
        have hsz := tsize_le l _ hlo
        generalize t.kids.getD i tr0 = k at *
        have hVc := Tr.V_cells k
        have hVi := Tr.V_is k
        refine stp (And.intro ha (And.intro hVc @trRow_is)) ?_
        rw [← hVi]
        refine ih _ _ _ (by omega) hok hlo ?_
        refine stp0 ?_
        exact hJ (a + tsize l k, i + 1) _ ⟨h1, by show a + tsize l k ≤ 1000 * (l + 1); omega, heq⟩ (by show t.kids.length - (i + 1) < t.kids.length - i; omega) fgt
      · rw [if_neg h2] at heq
        rw [← heq] at h
        refine stp @trRow_is ?_
        exact aret_u hs (h)
    · rw [List.drop_of_length_le (by omega), szLoop] at heq
      rw [← heq] at h
      refine stp @trRow_is ?_
      exact aret_u hs (h)
def tLow (t : Tr) : Bool := tlow 12 t && decide (tsize 12 t ≤ 400)
theorem Low_a {t : Tr} (ho : TrOk t) {H : AHeap} {K : AV → AHeap → Prop} (h : K (.bool (tLow t)) H) : (ACalls Tryd.prog) 5 [t.V] H K := by
  refine acalls_go mo t5 (fun hs hu => ?_)
  have hVi := Tr.V_is t
  unfold tLow at h
  simp only [c5, Tr.V_is, go_sem, Nat.reduceLeDiff, Nat.reduceAdd, Nat.reduceSub, Nat.reduceMul, Nat.reduceLT, Int.reduceLT, Int.reduceLE, Int.reduceAdd, Int.reduceSub, Int.reduceMul, Int.reduceToNat, Int.reduceNeg, Int.reduceEq, Nat.reducePow, Int.reducePow, Nat.reduceEqDiff, decide_true, decide_false, reduceIte, reduceCtorEq, Int.reduceBEq, Int.reduceBNe, bne_self_eq_false, Int.cast_ofNat_Int, Bool.not_true, Bool.not_false, IntKind.bits]
  rw [← hVi]
  refine low_a 12 t _ _ (by omega) ho ?_
  cases h1 : tlow 12 t with
  | true =>
    rw [h1, Bool.true_and] at h
    refine stp0 ?_
    rw [← hVi]
    refine size_a 12 t _ _ (by omega) ho h1 ?_
    refine stp0 ?_
    exact aret_u hs (h)
  | false =>
    rw [h1, Bool.false_and] at h
    refine stp0 ?_
    exact aret_u hs (h)
section
variable {H : AHeap} {K : AV → AHeap → Prop}
end
theorem szLoop_sum (f : Tr → Nat) : ∀ (ks : List Tr) (a : Nat), szLoop f a ks ≤ 999 → szLoop f a ks = a + (ks.map f).sum
  | [], a, _ => by rw [szLoop]; simp
  | k :: ks, a, h => by
    rw [szLoop] at h ⊢
    split at h
    · rw [if_pos (by assumption), szLoop_sum f ks _ h, List.map_cons, List.sum_cons]
      omega
    · rename_i h2
      omega
theorem sum_le {ks : List Tr} {f : Tr → Nat} {k : Tr} (h : k ∈ ks) : f k ≤ (ks.map f).sum := by
  induction ks with
  | nil => cases h
  | cons x xs ih =>
    rw [List.map_cons, List.sum_cons]
    rcases List.mem_cons.1 h with rfl | h
    · omega
    · have := ih h
      omega
/-- The names of a path: what has been read of one, the ones before, what is to come. -/
def scanP : List UInt8 → List (List UInt8) → List UInt8 → Option (List (List UInt8))
  | cur, out, [] => if cur = [] ∨ out.length = 7 then none else some (out ++ [cur])
  | cur, out, c :: rest => if c = 47 then (if cur = [] ∨ out.length = 7 then none else scanP [] (out ++ [cur]) rest) else scanP (cur ++ [c]) out rest
def partsP (p : List UInt8) : Option (List (List UInt8)) := if p = [47] then some [] else if p.getD 0 0 = 47 then scanP [] [] (p.drop 1) else none
theorem pstrs_len (ls : List (List UInt8)) : ∀ x ∈ ls.map strV, x.cells.length = 1 := fun x hx => by obtain ⟨n, _, rfl⟩ := List.mem_map.1 hx; rfl
theorem pstrs_u (n : Nat) (ls : List (List UInt8)) : AllC n (ls.map strV) := by rw [uc_strs]; trivial
theorem part_snoc {p : List UInt8} {f i : Nat} (hf : f ≤ i) (hi : i < p.length) : (p.take (i + 1)).drop f = (p.take i).drop f ++ [p.getD i 0] := by
  rw [List.take_add_one, List.getElem?_eq_getElem hi, List.drop_append_of_le_length (by rw [List.length_take]; omega), List.getD_eq_getElem?_getD, List.getElem?_eq_getElem hi]
  rfl
theorem parts_a {p : List UInt8} (hl : p.length < 9223372036854775807) {H : AHeap} {K : AV → AHeap → Prop} (h : ∀ k, K (match partsP p with
    | some ns => .tup [slA k 1 (ns.map strV), .bool true]
    | none => .tup [.nils, .bool false]) H) : (ACalls Tryd.prog) 28 [.str (B p)] H K := by
  refine acalls_go mo t28 (fun hs hu => ?_)
  have hnone : partsP p = none → K (.tup [.nils, .bool false]) H := fun e => by
    have := h 0
    rw [e] at this
    exact this
  have hsome : ∀ ns, partsP p = some ns → ∀ k, K (.tup [slA k 1 (ns.map strV), .bool true]) H := fun ns e k => by
    have := h k
    rw [e] at this
    exact this
  clear h
  unfold partsP at hnone hsome
  simp only [c28, go_sem, Nat.reduceLeDiff, Nat.reduceAdd, Nat.reduceSub, Nat.reduceMul, Nat.reduceLT, Int.reduceLT, Int.reduceLE, Int.reduceAdd, Int.reduceSub, Int.reduceMul, Int.reduceToNat, Int.reduceNeg, Int.reduceEq, Nat.reducePow, Int.reducePow, Nat.reduceEqDiff, decide_true, decide_false, reduceIte, reduceCtorEq, Int.reduceBEq, Int.reduceBNe, bne_self_eq_false, Int.cast_ofNat_Int, Bool.not_true, Bool.not_false, IntKind.bits]
  by_cases h1 : p = [47]
  · rw [if_pos h1] at hsome
    have := hsome [] rfl 0
    subst h1
    refine stp0 ?_
    exact aret_plain hs (by simp only [u_top, u_bool, u_int, u_str, u_nilp, u_nils, u_nilf, u_nilm, u_nili, u_emp, u_byteV, u_ptr, u_wr, u_wc, u_agg, u_tup, u_rd, u_imm, u_func, u_nil, u_cons, u_app, uc_nil, uc_cons, uc_app, u_bytes, uc_bytes, u_ints, uc_ints, cells_bool, cells_int, cells_str, cells_agg, cells_ptr, cells_nils, cells_imm, cells_wr, cells_wc, cells_nilp, cells_nilf, cells_nilm, cells_rd, cells_emp, cells_byteV, cells_func, and_self, and_true, true_and, u_slA, uc_strs, cells_slA, strV_is]) this
  rw [if_neg h1] at hnone hsome
  by_cases h2 : p = []
  · subst h2
    have := hnone rfl
    refine stp0 ?_
    exact aret_plain hs (by simp only [u_top, u_bool, u_int, u_str, u_nilp, u_nils, u_nilf, u_nilm, u_nili, u_emp, u_byteV, u_ptr, u_wr, u_wc, u_agg, u_tup, u_rd, u_imm, u_func, u_nil, u_cons, u_app, uc_nil, uc_cons, uc_app, u_bytes, uc_bytes, u_ints, uc_ints, cells_bool, cells_int, cells_str, cells_agg, cells_ptr, cells_nils, cells_imm, cells_wr, cells_wc, cells_nilp, cells_nilf, cells_nilm, cells_rd, cells_emp, cells_byteV, cells_func, and_self, and_true, true_and, u_slA, uc_strs, cells_slA, strV_is]) this
  have hpos := List.length_pos_iff.2 h2
  have hb0 := byte_at hpos
  by_cases h3 : p.getD 0 0 = 47
  · rw [if_pos h3] at hnone hsome
    have h3n : ((p.getD 0 0).toNat : Int) = 47 := by rw [h3]; rfl
    refine stp (And.intro h1 (And.intro h2 (And.intro hb0 h3n))) ?_
    refine go_loopS mono (σ := AHeap × AV × List (List UInt8) × Nat × Nat) (fun z => [(4, z.2.1), (5, .int .i64 (z.2.2.2.1 : Int)), (6, .int .i64 (z.2.2.2.2 : Int))]) (fun z => hp z.1 []) (fun z => Past H z.1 ∧ SlAt H.next z.1 9 1 z.2.1 (z.2.2.1.map strV) ∧ z.2.2.1.length ≤ 7 ∧ 1 ≤ z.2.2.2.1 ∧ z.2.2.2.1 ≤ z.2.2.2.2 ∧ z.2.2.2.2 ≤ p.length + 1 ∧ (z.2.2.2.2 ≤ p.length → scanP ((p.take z.2.2.2.2).drop z.2.2.2.1) z.2.2.1 (p.drop z.2.2.2.2) = scanP [] [] (p.drop 1)) ∧ (z.2.2.2.2 = p.length + 1 → scanP [] [] (p.drop 1) = some z.2.2.1)) (fun z => p.length + 1 - z.2.2.2.2) (H, .nils, [], 1, 1) ?_ rfl ⟨past_refl, slat_nil, by simp, Nat.le_refl 1, Nat.le_refl 1, by show 1 ≤ p.length + 1; omega, fun _ => by
      show scanP ((p.take 1).drop 1) [] (p.drop 1) = _
      rw [List.drop_of_length_le (l := p.take 1) (by rw [List.length_take]; omega)], fun e => by have e : (1 : Nat) = p.length + 1 := e; omega⟩ (fun z hz J hJ => ?_)
    · exact fgt
    obtain ⟨G, v, out, f, i⟩ := z
    obtain ⟨hG, hv, ho7, hf1, hfi, hil, hsc, hend⟩ := hz
    simp only at hG hv ho7 hf1 hfi hil hsc hend
    simp only [blurR_nil, blurR_some, blurR_none, blurC_region, blurC_regionN, blurC_fregion, blurT_nil, blurT_cons, blurC_seq, blurC_both, blurC_cond, blurC_block, blurC_loop, blurC_skip, blurC_exit, blurC_ret, tellS_nil, tellS_cons, List.set_cons_zero, List.set_cons_succ, tops_zero, tops_succ]
    by_cases h4 : i ≤ p.length
    · have hsc := hsc h4
      have hvl := slat_len hv
      rw [List.length_map] at hvl
      have hJ2 := fun (G2 : AHeap) (v2 : AV) (out2 : List (List UInt8)) (f2 : Nat) p1 p2 p3 p4 p5 p6 p7 a' => hJ (G2, v2, out2, f2, i + 1) a' ⟨p1, p2, p3, p4, p5, by show i + 1 ≤ p.length + 1; omega, p6, p7⟩ (by show p.length + 1 - (i + 1) < p.length + 1 - i; omega)
      clear hJ
      by_cases h5 : i < p.length
      · have hbi := byte_at h5
        have hdr : p.drop i = p.getD i 0 :: p.drop (i + 1) := by rw [List.drop_eq_getElem_cons h5, List.getD_eq_getElem?_getD, List.getElem?_eq_getElem h5]; rfl
        have hsn := part_snoc hfi h5
        rw [hdr, scanP] at hsc
        by_cases h6 : p.getD i 0 = 47
        · have h6n : ((p.getD i 0).toNat : Int) = 47 := by rw [h6]; rfl
          rw [if_pos h6] at hsc
          by_cases h7 : i = f
          · rw [if_pos (.inl (by rw [h7, List.drop_of_length_le (by rw [List.length_take]; omega)]))] at hsc
            have := hnone hsc.symm
            subst h7
            refine stp (And.intro hbi h6n) ?_
            exact aret_past (past_hp hG []) hs (by simp only [u_top, u_bool, u_int, u_str, u_nilp, u_nils, u_nilf, u_nilm, u_nili, u_emp, u_byteV, u_ptr, u_wr, u_wc, u_agg, u_tup, u_rd, u_imm, u_func, u_nil, u_cons, u_app, uc_nil, uc_cons, uc_app, u_bytes, uc_bytes, u_ints, uc_ints, cells_bool, cells_int, cells_str, cells_agg, cells_ptr, cells_nils, cells_imm, cells_wr, cells_wc, cells_nilp, cells_nilf, cells_nilm, cells_rd, cells_emp, cells_byteV, cells_func, and_self, and_true, true_and, u_slA, uc_strs, cells_slA, strV_is]) this
          · by_cases h8 : out.length = 7
            · rw [if_pos (.inr h8)] at hsc
              have := hnone hsc.symm
              refine stp (And.intro hbi (And.intro h6n (And.intro hvl h8))) ?_
              exact aret_past (past_hp hG []) hs (by simp only [u_top, u_bool, u_int, u_str, u_nilp, u_nils, u_nilf, u_nilm, u_nili, u_emp, u_byteV, u_ptr, u_wr, u_wc, u_agg, u_tup, u_rd, u_imm, u_func, u_nil, u_cons, u_app, uc_nil, uc_cons, uc_app, u_bytes, uc_bytes, u_ints, uc_ints, cells_bool, cells_int, cells_str, cells_agg, cells_ptr, cells_nils, cells_imm, cells_wr, cells_wc, cells_nilp, cells_nilf, cells_nilm, cells_rd, cells_emp, cells_byteV, cells_func, and_self, and_true, true_and, u_slA, uc_strs, cells_slA, strV_is]) this
            · rw [if_neg (by rintro (q | q); (have := congrArg List.length q; rw [List.length_drop, List.length_take, List.length_nil] at this; omega); exact h8 q)] at hsc
              obtain ⟨v3, G3, hE, hv3, hbs⟩ := slat_app (G := hp G []) (b := 16) (ys := [strV ((p.take i).drop f)]) (slat_hp hv []) (by rw [hp_nil]; exact hG.next) (pstrs_len out) rfl (by simp only [List.length_map, List.length_cons, List.length_nil]; omega)
              rw [strV_is] at hE
              have hP3 : Past H G3 := beside_past hbs (Nat.le_refl _) (past_hp hG [])
              have hv4 : SlAt H.next G3 9 1 v3 ((out ++ [(p.take i).drop f]).map strV) := by rw [List.map_append]; exact hv3
              have hnil2 : (p.take (i + 1)).drop (i + 1) = [] := List.drop_of_length_le (by rw [List.length_take]; omega)
              refine stp (And.intro hbi (And.intro h6n (And.intro hvl (And.intro h8 hE)))) ?_
              refine hJ2 G3 v3 (out ++ [(p.take i).drop f]) (i + 1) hP3 hv4 (by rw [List.length_append, List.length_singleton]; omega) (Nat.le_add_left 1 i) (Nat.le_refl _) (fun _ => ?_) (fun e => by have e : i + 1 = p.length + 1 := e; omega) _ fgt
              show scanP ((p.take (i + 1)).drop (i + 1)) _ (p.drop (i + 1)) = _
              rw [hnil2]
              exact hsc
        · have h6n : ¬ (p.getD i 0).toNat = 47 := fun e => h6 (UInt8.toNat_inj.1 e)
          rw [if_neg h6, ← hsn] at hsc
          refine stp hbi ?_
          exact hJ2 G v out f hG hv ho7 hf1 (by show f ≤ i + 1; omega) (fun _ => hsc) (fun e => by have e : i + 1 = p.length + 1 := e; omega) _ fgt
      · have hip : i = p.length := by omega
        have hdr : p.drop i = [] := List.drop_of_length_le (by omega)
        rw [hdr, scanP] at hsc
        by_cases h7 : i = f
        · rw [if_pos (.inl (by rw [h7, List.drop_of_length_le (by rw [List.length_take]; omega)]))] at hsc
          have := hnone hsc.symm
          subst h7
          refine stp0 ?_
          exact aret_past (past_hp hG []) hs (by simp only [u_top, u_bool, u_int, u_str, u_nilp, u_nils, u_nilf, u_nilm, u_nili, u_emp, u_byteV, u_ptr, u_wr, u_wc, u_agg, u_tup, u_rd, u_imm, u_func, u_nil, u_cons, u_app, uc_nil, uc_cons, uc_app, u_bytes, uc_bytes, u_ints, uc_ints, cells_bool, cells_int, cells_str, cells_agg, cells_ptr, cells_nils, cells_imm, cells_wr, cells_wc, cells_nilp, cells_nilf, cells_nilm, cells_rd, cells_emp, cells_byteV, cells_func, and_self, and_true, true_and, u_slA, uc_strs, cells_slA, strV_is]) this
        · by_cases h8 : out.length = 7
          · rw [if_pos (.inr h8)] at hsc
            have := hnone hsc.symm
            refine stp (And.intro hvl h8) ?_
            exact aret_past (past_hp hG []) hs (by simp only [u_top, u_bool, u_int, u_str, u_nilp, u_nils, u_nilf, u_nilm, u_nili, u_emp, u_byteV, u_ptr, u_wr, u_wc, u_agg, u_tup, u_rd, u_imm, u_func, u_nil, u_cons, u_app, uc_nil, uc_cons, uc_app, u_bytes, uc_bytes, u_ints, uc_ints, cells_bool, cells_int, cells_str, cells_agg, cells_ptr, cells_nils, cells_imm, cells_wr, cells_wc, cells_nilp, cells_nilf, cells_nilm, cells_rd, cells_emp, cells_byteV, cells_func, and_self, and_true, true_and, u_slA, uc_strs, cells_slA, strV_is]) this
          · rw [if_neg (by rintro (q | q); (have := congrArg List.length q; rw [List.length_drop, List.length_take, List.length_nil] at this; omega); exact h8 q)] at hsc
            obtain ⟨v3, G3, hE, hv3, hbs⟩ := slat_app (G := hp G []) (b := 16) (ys := [strV ((p.take i).drop f)]) (slat_hp hv []) (by rw [hp_nil]; exact hG.next) (pstrs_len out) rfl (by simp only [List.length_map, List.length_cons, List.length_nil]; omega)
            rw [strV_is] at hE
            have hP3 : Past H G3 := beside_past hbs (Nat.le_refl _) (past_hp hG [])
            have hv4 : SlAt H.next G3 9 1 v3 ((out ++ [(p.take i).drop f]).map strV) := by rw [List.map_append]; exact hv3
            have hnil2 : (p.take (i + 1)).drop (i + 1) = [] := List.drop_of_length_le (by rw [List.length_take]; omega)
            refine stp (And.intro hvl (And.intro h8 hE)) ?_
            exact hJ2 G3 v3 (out ++ [(p.take i).drop f]) (i + 1) hP3 hv4 (by rw [List.length_append, List.length_singleton]; omega) (Nat.le_add_left 1 i) (Nat.le_refl _) (fun e => by have e : i + 1 ≤ p.length := e; omega) (fun _ => hsc.symm) _ fgt
    · have e : i = p.length + 1 := by omega
      have := hsome _ (hend e)
      obtain ⟨G2, kk, hS, hP2⟩ := slat_shut (slat_hp hv []) (pstrs_len out)
      refine stp0 ?_
      exact aret_shut (.tup _ _ [] [.bool true] _ _ hS) (hP2 H (Nat.le_refl _) (past_hp hG [])) hs (by simp only [List.nil_append, u_tup, u_cons, u_nil, u_bool, u_slA, and_true]; exact pstrs_u _ _) (this kk)
  · rw [if_neg h3] at hnone
    have := hnone rfl
    have h3n : ¬ (p.getD 0 0).toNat = 47 := fun e => h3 (UInt8.toNat_inj.1 e)
    refine stp (And.intro h1 (And.intro h2 hb0)) ?_
    exact aret_plain hs (by simp only [u_top, u_bool, u_int, u_str, u_nilp, u_nils, u_nilf, u_nilm, u_nili, u_emp, u_byteV, u_ptr, u_wr, u_wc, u_agg, u_tup, u_rd, u_imm, u_func, u_nil, u_cons, u_app, uc_nil, uc_cons, uc_app, u_bytes, uc_bytes, u_ints, uc_ints, cells_bool, cells_int, cells_str, cells_agg, cells_ptr, cells_nils, cells_imm, cells_wr, cells_wc, cells_nilp, cells_nilf, cells_nilm, cells_rd, cells_emp, cells_byteV, cells_func, and_self, and_true, true_and, u_slA, uc_strs, cells_slA, strV_is]) this
def nameIs (n : List UInt8) (k : Tr) : Bool := decide (k.name = n)
def kidT (t : Tr) (n : List UInt8) : Option Tr := t.kids.find? (nameIs n)
def foundV : Option Tr → AV
  | some t => .tup [t.V, .bool true]
  | none => .tup [tr0.V, .bool false]
theorem find_drop {α : Type} {p : α → Bool} {l : List α} {i : Nat} {d : α} (h : i < l.length) : (l.drop i).find? p = if p (l.getD i d) = true then some (l.getD i d) else (l.drop (i + 1)).find? p := by
  have he : l[i] = l.getD i d := by rw [List.getD_eq_getElem?_getD, List.getElem?_eq_getElem h]; rfl
  rw [List.drop_eq_getElem_cons h, he]
  cases hp : p (l.getD i d) with
  | true => rw [List.find?_cons_of_pos hp, if_pos rfl]
  | false => rw [List.find?_cons_of_neg (by rw [hp]; exact Bool.false_ne_true), if_neg Bool.false_ne_true]
theorem kid_a {t : Tr} (ho : TrOk t) {n : List UInt8} {H : AHeap} {K : AV → AHeap → Prop} (h : K (foundV (kidT t n)) H) : (ACalls Tryd.prog) 29 [t.V, .str (B n)] H K := by
  refine acalls_go mo t29 (fun hs hu => ?_)
  have hkl := ho.k
  unfold kidT at h
  simp only [c29, Tr.V_is, go_sem, Nat.reduceLeDiff, Nat.reduceAdd, Nat.reduceSub, Nat.reduceMul, Nat.reduceLT, Int.reduceLT, Int.reduceLE, Int.reduceAdd, Int.reduceSub, Int.reduceMul, Int.reduceToNat, Int.reduceNeg, Int.reduceEq, Nat.reducePow, Int.reducePow, Nat.reduceEqDiff, decide_true, decide_false, reduceIte, reduceCtorEq, Int.reduceBEq, Int.reduceBNe, bne_self_eq_false, Int.cast_ofNat_Int, Bool.not_true, Bool.not_false, IntKind.bits]
  refine go_loopS mono (σ := Nat) (fun i => [(6, .int .i64 (i : Int))]) (fun i => hp H [trRow t, trRow tr0]) (fun i => i ≤ t.kids.length ∧ (t.kids.drop i).find? (nameIs n) = t.kids.find? (nameIs n)) (fun i => t.kids.length - i) 0 ?_ rfl ⟨Nat.zero_le _, rfl⟩ (fun i hi J hJ => ?_)
  · exact fgt
  obtain ⟨hil, hf⟩ := hi
  simp only [blurR_nil, blurR_some, blurR_none, blurC_region, blurC_regionN, blurC_fregion, blurT_nil, blurT_cons, blurC_seq, blurC_both, blurC_cond, blurC_block, blurC_loop, blurC_skip, blurC_exit, blurC_ret, tellS_nil, tellS_cons, List.set_cons_zero, List.set_cons_succ, tops_zero, tops_succ]
  by_cases h1 : i < t.kids.length
  · have ha := tr_at h1
    rw [find_drop (d := tr0) h1] at hf
    generalize t.kids.getD i tr0 = k at *
    have hVc := Tr.V_cells k
    have hVi := Tr.V_is k
    by_cases h2 : k.name = n
    · rw [if_pos (by unfold nameIs; rw [decide_eq_true h2])] at hf
      rw [← hf] at h
      unfold foundV at h
      simp only at h
      rw [hVi, h2] at h
      simp (maxSteps := 4000000) (disch := (first | omega | (simp only [set_next, List.length_append, List.length_cons, List.length_nil, List.length_take, List.length_drop, List.length_map, List.length_set, List.length_replicate]; omega) | (simp only [set_next, ne_eq, reduceCtorEq, not_false_eq_true]))) only [ha, hVc, trRow_is, h2, B_toList, beq_self_eq_true, go_sem, Nat.reduceLeDiff, Nat.reduceAdd, Nat.reduceSub, Nat.reduceMul, Nat.reduceLT, Int.reduceLT, Int.reduceLE, Int.reduceAdd, Int.reduceSub, Int.reduceMul, Int.reduceToNat, Int.reduceNeg, Int.reduceEq, Nat.reducePow, Int.reducePow, Nat.reduceEqDiff, decide_true, decide_false, reduceIte, reduceCtorEq, Int.reduceBEq, Int.reduceBNe, bne_self_eq_false, Int.cast_ofNat_Int, Bool.not_true, Bool.not_false, IntKind.bits, w_nat, w_lit, w_add, w_addl, w_ladd, w_sub, w_subl, w_lsub, w_mul, w_mull, w_lmul, t_div, t_divl, t_mod, t_modl, i_lt, i_ltl, i_llt, i_le, i_lel, i_lle, i_eq, i_eql, i_leq, Nat.zero_le, d_beq, d_bne, d_bytes, byte_at, Int.toNat_natCast, toNat_lit, decide_eq_true, decide_eq_false, if_pos, if_neg, slA_len, slA_idx, slA_cells, flat_slA, one_slA, cells_slA, map_mid, strV_is, hp_get1, hp_get2, hp_get3, hp_set1, hp_set2, hp_set3, hp_old, hp_sold, set_got, set_set, set_next, set_other, bytesL, bytes_all, List.length_map, aapp_nils, aapp_wr, List.flatMap_cons, List.flatMap_nil, Nat.mul_one]
      refine aret_plain hs ?_ h
      simp only [u_top, u_bool, u_int, u_str, u_nilp, u_nils, u_nilf, u_nilm, u_nili, u_emp, u_byteV, u_ptr, u_wr, u_wc, u_agg, u_tup, u_rd, u_imm, u_func, u_nil, u_cons, u_app, uc_nil, uc_cons, uc_app, u_bytes, uc_bytes, u_ints, uc_ints, cells_bool, cells_int, cells_str, cells_agg, cells_ptr, cells_nils, cells_imm, cells_wr, cells_wc, cells_nilp, cells_nilf, cells_nilm, cells_rd, cells_emp, cells_byteV, cells_func, and_self, and_true, true_and, u_slA, uc_strs, cells_slA, strV_is]
      exact ⟨props_u _ _, kids_u _ _⟩
    · rw [if_neg (by unfold nameIs; rw [decide_eq_false h2]; exact Bool.false_ne_true)] at hf
      refine stp (And.intro ha (And.intro hVc (And.intro @trRow_is h2))) ?_
      exact hJ (i + 1) _ ⟨h1, hf⟩ (by omega) fgt
  · rw [List.drop_of_length_le (by omega), List.find?_nil] at hf
    rw [← hf] at h
    unfold foundV at h
    simp only at h
    have e0 : tr0.V = .agg [.str (B []), .nils, .nils] := rfl
    rw [e0] at h
    refine stp @trRow_is ?_
    exact aret_plain hs (by simp only [u_top, u_bool, u_int, u_str, u_nilp, u_nils, u_nilf, u_nilm, u_nili, u_emp, u_byteV, u_ptr, u_wr, u_wc, u_agg, u_tup, u_rd, u_imm, u_func, u_nil, u_cons, u_app, uc_nil, uc_cons, uc_app, u_bytes, uc_bytes, u_ints, uc_ints, cells_bool, cells_int, cells_str, cells_agg, cells_ptr, cells_nils, cells_imm, cells_wr, cells_wc, cells_nilp, cells_nilf, cells_nilm, cells_rd, cells_emp, cells_byteV, cells_func, and_self, and_true, true_and, u_slA, uc_strs, cells_slA, strV_is]) h
def valT (t : Tr) (n : List UInt8) : Option (List UInt8) := (t.props.find? (fun p => decide (p.1 = n))).map (·.2)
theorem value_a {t : Tr} (ho : TrOk t) {n : List UInt8} {H : AHeap} {K : AV → AHeap → Prop} (h : K (match valT t n with
    | some v => .tup [.str (B v), .bool true]
    | none => .tup [.str (B []), .bool false]) H) : (ACalls Tryd.prog) 15 [t.V, .str (B n)] H K := by
  refine acalls_go mo t15 (fun hs hu => ?_)
  have hkl := ho.p
  unfold valT at h
  simp only [c15, Tr.V_is, go_sem, Nat.reduceLeDiff, Nat.reduceAdd, Nat.reduceSub, Nat.reduceMul, Nat.reduceLT, Int.reduceLT, Int.reduceLE, Int.reduceAdd, Int.reduceSub, Int.reduceMul, Int.reduceToNat, Int.reduceNeg, Int.reduceEq, Nat.reducePow, Int.reducePow, Nat.reduceEqDiff, decide_true, decide_false, reduceIte, reduceCtorEq, Int.reduceBEq, Int.reduceBNe, bne_self_eq_false, Int.cast_ofNat_Int, Bool.not_true, Bool.not_false, IntKind.bits]
  refine go_loopS mono (σ := Nat) (fun i => [(6, .int .i64 (i : Int))]) (fun i => hp H [trRow t]) (fun i => i ≤ t.props.length ∧ (t.props.drop i).find? (fun p => decide (p.1 = n)) = t.props.find? (fun p => decide (p.1 = n))) (fun i => t.props.length - i) 0 ?_ rfl ⟨Nat.zero_le _, rfl⟩ (fun i hi J hJ => ?_)
  · exact fgt
  obtain ⟨hil, hf⟩ := hi
  simp only [blurR_nil, blurR_some, blurR_none, blurC_region, blurC_regionN, blurC_fregion, blurT_nil, blurT_cons, blurC_seq, blurC_both, blurC_cond, blurC_block, blurC_loop, blurC_skip, blurC_exit, blurC_ret, tellS_nil, tellS_cons, List.set_cons_zero, List.set_cons_succ, tops_zero, tops_succ]
  by_cases h1 : i < t.props.length
  · have ha := prop_at h1
    rw [find_drop (d := ([], [])) h1] at hf
    generalize t.props.getD i ([], []) = p at *
    by_cases h2 : p.1 = n
    · rw [if_pos (by rw [decide_eq_true h2])] at hf
      rw [← hf] at h
      simp only [Option.map_some] at h
      simp (maxSteps := 4000000) (disch := (first | omega | (simp only [set_next, List.length_append, List.length_cons, List.length_nil, List.length_take, List.length_drop, List.length_map, List.length_set, List.length_replicate]; omega) | (simp only [set_next, ne_eq, reduceCtorEq, not_false_eq_true]))) only [ha, propV_cells, trRow_is, h2, B_toList, beq_self_eq_true, go_sem, Nat.reduceLeDiff, Nat.reduceAdd, Nat.reduceSub, Nat.reduceMul, Nat.reduceLT, Int.reduceLT, Int.reduceLE, Int.reduceAdd, Int.reduceSub, Int.reduceMul, Int.reduceToNat, Int.reduceNeg, Int.reduceEq, Nat.reducePow, Int.reducePow, Nat.reduceEqDiff, decide_true, decide_false, reduceIte, reduceCtorEq, Int.reduceBEq, Int.reduceBNe, bne_self_eq_false, Int.cast_ofNat_Int, Bool.not_true, Bool.not_false, IntKind.bits, w_nat, w_lit, w_add, w_addl, w_ladd, w_sub, w_subl, w_lsub, w_mul, w_mull, w_lmul, t_div, t_divl, t_mod, t_modl, i_lt, i_ltl, i_llt, i_le, i_lel, i_lle, i_eq, i_eql, i_leq, Nat.zero_le, d_beq, d_bne, d_bytes, byte_at, Int.toNat_natCast, toNat_lit, decide_eq_true, decide_eq_false, if_pos, if_neg, slA_len, slA_idx, slA_cells, flat_slA, one_slA, cells_slA, map_mid, strV_is, hp_get1, hp_get2, hp_get3, hp_set1, hp_set2, hp_set3, hp_old, hp_sold, set_got, set_set, set_next, set_other, bytesL, bytes_all, List.length_map, aapp_nils, aapp_wr, List.flatMap_cons, List.flatMap_nil, Nat.mul_one]
      exact aret_u hs (h)
    · rw [if_neg (by rw [decide_eq_false h2]; exact Bool.false_ne_true)] at hf
      refine stp (And.intro ha (And.intro @propV_cells (And.intro @trRow_is h2))) ?_
      exact hJ (i + 1) _ ⟨h1, hf⟩ (by omega) fgt
  · rw [List.drop_of_length_le (by omega), List.find?_nil] at hf
    rw [← hf] at h
    simp only [Option.map_none] at h
    refine stp @trRow_is ?_
    exact aret_u hs (h)
/-! ### a tree is the same as itself -/
theorem sameProps_a {k k2 : Nat} {ps : List (List UInt8 × List UInt8)} (hl : ps.length ≤ 9223372036854775807) {H : AHeap} {K : AV → AHeap → Prop} (h : K (.bool true) H) : (ACalls Tryd.prog) 51 [slA k 2 (ps.map propV), slA k2 2 (ps.map propV)] H K := by
  refine acalls_go mo t51 (fun hs hu => ?_)
  simp only [c51, go_sem, Nat.reduceLeDiff, Nat.reduceAdd, Nat.reduceSub, Nat.reduceMul, Nat.reduceLT, Int.reduceLT, Int.reduceLE, Int.reduceAdd, Int.reduceSub, Int.reduceMul, Int.reduceToNat, Int.reduceNeg, Int.reduceEq, Nat.reducePow, Int.reducePow, Nat.reduceEqDiff, decide_true, decide_false, reduceIte, reduceCtorEq, Int.reduceBEq, Int.reduceBNe, bne_self_eq_false, Int.cast_ofNat_Int, Bool.not_true, Bool.not_false, IntKind.bits]
  simp (maxSteps := 4000000) (disch := (first | omega | (simp only [set_next, List.length_append, List.length_cons, List.length_nil, List.length_take, List.length_drop, List.length_map, List.length_set, List.length_replicate]; omega) | (simp only [set_next, ne_eq, reduceCtorEq, not_false_eq_true]))) only [bne_self_eq_false, go_sem, Nat.reduceLeDiff, Nat.reduceAdd, Nat.reduceSub, Nat.reduceMul, Nat.reduceLT, Int.reduceLT, Int.reduceLE, Int.reduceAdd, Int.reduceSub, Int.reduceMul, Int.reduceToNat, Int.reduceNeg, Int.reduceEq, Nat.reducePow, Int.reducePow, Nat.reduceEqDiff, decide_true, decide_false, reduceIte, reduceCtorEq, Int.reduceBEq, Int.reduceBNe, bne_self_eq_false, Int.cast_ofNat_Int, Bool.not_true, Bool.not_false, IntKind.bits, w_nat, w_lit, w_add, w_addl, w_ladd, w_sub, w_subl, w_lsub, w_mul, w_mull, w_lmul, t_div, t_divl, t_mod, t_modl, i_lt, i_ltl, i_llt, i_le, i_lel, i_lle, i_eq, i_eql, i_leq, Nat.zero_le, d_beq, d_bne, d_bytes, byte_at, Int.toNat_natCast, toNat_lit, decide_eq_true, decide_eq_false, if_pos, if_neg, slA_len, slA_idx, slA_cells, flat_slA, one_slA, cells_slA, map_mid, strV_is, hp_get1, hp_get2, hp_get3, hp_set1, hp_set2, hp_set3, hp_old, hp_sold, set_got, set_set, set_next, set_other, bytesL, bytes_all, List.length_map, aapp_nils, aapp_wr, List.flatMap_cons, List.flatMap_nil, Nat.mul_one]
  refine go_loopS mono (σ := Nat) (fun i => [(5, .int .i64 (i : Int))]) (fun i => hp H []) (fun i => i ≤ ps.length) (fun i => ps.length - i) 0 ?_ rfl (Nat.zero_le _) (fun i hi J hJ => ?_)
  · exact fgt
  have hil : i ≤ ps.length := hi
  simp only [blurR_nil, blurR_some, blurR_none, blurC_region, blurC_regionN, blurC_fregion, blurT_nil, blurT_cons, blurC_seq, blurC_both, blurC_cond, blurC_block, blurC_loop, blurC_skip, blurC_exit, blurC_ret, tellS_nil, tellS_cons, List.set_cons_zero, List.set_cons_succ, tops_zero, tops_succ]
  by_cases h1 : i < ps.length
  · have ha := prop_at h1
    simp (maxSteps := 4000000) (disch := (first | omega | (simp only [set_next, List.length_append, List.length_cons, List.length_nil, List.length_take, List.length_drop, List.length_map, List.length_set, List.length_replicate]; omega) | (simp only [set_next, ne_eq, reduceCtorEq, not_false_eq_true]))) only [ha, propV_cells, B_toList, beq_self_eq_true, bne_self_eq_false, go_sem, Nat.reduceLeDiff, Nat.reduceAdd, Nat.reduceSub, Nat.reduceMul, Nat.reduceLT, Int.reduceLT, Int.reduceLE, Int.reduceAdd, Int.reduceSub, Int.reduceMul, Int.reduceToNat, Int.reduceNeg, Int.reduceEq, Nat.reducePow, Int.reducePow, Nat.reduceEqDiff, decide_true, decide_false, reduceIte, reduceCtorEq, Int.reduceBEq, Int.reduceBNe, bne_self_eq_false, Int.cast_ofNat_Int, Bool.not_true, Bool.not_false, IntKind.bits, w_nat, w_lit, w_add, w_addl, w_ladd, w_sub, w_subl, w_lsub, w_mul, w_mull, w_lmul, t_div, t_divl, t_mod, t_modl, i_lt, i_ltl, i_llt, i_le, i_lel, i_lle, i_eq, i_eql, i_leq, Nat.zero_le, d_beq, d_bne, d_bytes, byte_at, Int.toNat_natCast, toNat_lit, decide_eq_true, decide_eq_false, if_pos, if_neg, slA_len, slA_idx, slA_cells, flat_slA, one_slA, cells_slA, map_mid, strV_is, hp_get1, hp_get2, hp_get3, hp_set1, hp_set2, hp_set3, hp_old, hp_sold, set_got, set_set, set_next, set_other, bytesL, bytes_all, List.length_map, aapp_nils, aapp_wr, List.flatMap_cons, List.flatMap_nil, Nat.mul_one]
    exact hJ (i + 1) _ h1 (by omega) fgt
  · refine stp0 ?_
    exact aret_u hs (h)
/-! ### the node at a path -/
def walkTo : Tr → List (List UInt8) → Option Tr
  | t, [] => some t
  | t, n :: ns => match kidT t n with
    | some k => walkTo k ns
    | none => none
def findT (t : Tr) (p : List UInt8) : Option Tr := match partsP p with
  | some ns => walkTo t ns
  | none => none
theorem kidT_ok {t k : Tr} (ho : TrOk t) {n : List UInt8} (h : kidT t n = some k) : TrOk k := ho.ks k (List.mem_of_find?_eq_some h)
end Go.Proofs.YtdknpnmdjjmapaaDoor.AL
