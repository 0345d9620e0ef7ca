/- Paths: the plain law: in a tree whose kids are found again by their names each node is found at its path. -/
import Derived.Test.YtdknpnmdjjmapaaDoorQEditKeepsALMT10
import Derived.Test.YtdknpnmdjjmapaaDoorQEditKeepsALA3
import Derived.Test.YtdknpnmdjjmapaaDoorProg
import Derived.KernelRfl
set_option linter.unusedSimpArgs false
set_option linter.unusedVariables false
set_option maxRecDepth 100000
set_option maxHeartbeats 16000000
namespace Go.Proofs.YtdknpnmdjjmapaaDoor.AL
open Go Go.Proofs
def goodN (n : List UInt8) : Prop := n ≠ [] ∧ (47 : UInt8) ∉ n
def pathOf (ns : List (List UInt8)) : List UInt8 := if ns = [] then [47] else ns.flatMap (fun n => 47 :: n)
theorem scanP_name (out : List (List UInt8)) (rest : List UInt8) : ∀ (n cur : List UInt8), (47 : UInt8) ∉ n → scanP cur out (n ++ rest) = scanP (cur ++ n) out rest
  | [], cur, _ => by rw [List.append_nil, List.nil_append]
  | c :: n, cur, h => by
    rw [List.cons_append, scanP, if_neg (fun e => h (by rw [e]; exact List.mem_cons_self)), scanP_name out rest n _ (fun q => h (List.mem_cons_of_mem _ q)), List.append_assoc]
    rfl
theorem scanP_path : ∀ (ns : List (List UInt8)) (n : List UInt8) (out : List (List UInt8)), goodN n → (∀ x ∈ ns, goodN x) → out.length + ns.length + 1 ≤ 7 → scanP [] out (n ++ ns.flatMap (fun n => 47 :: n)) = some (out ++ n :: ns)
  | [], n, out, hn, hg, hl => by
    rw [List.flatMap_nil, scanP_name _ _ _ _ hn.2, List.nil_append, scanP, if_neg]
    rintro (q | q)
    · exact hn.1 q
    · simp only [List.length_nil] at hl
      omega
  | m :: ns, n, out, hn, hg, hl => by
    simp only [List.length_cons] at hl
    rw [List.flatMap_cons, scanP_name _ _ _ _ hn.2, List.nil_append, List.cons_append, scanP, if_pos rfl, if_neg (by rintro (q | q); exact hn.1 q; omega), scanP_path ns m (out ++ [n]) (hg m List.mem_cons_self) (fun x hx => hg x (List.mem_cons_of_mem _ hx)) (by rw [List.length_append, List.length_singleton]; omega), List.append_assoc]
    rfl
theorem partsP_path {ns : List (List UInt8)} (hg : ∀ x ∈ ns, goodN x) (hl : ns.length ≤ 7) : partsP (pathOf ns) = some ns := by
  unfold partsP
  cases ns with
  | nil => rfl
  | cons n ns =>
    have hn := hg n List.mem_cons_self
    have e : pathOf (n :: ns) = 47 :: (n ++ ns.flatMap (fun n => 47 :: n)) := by
      unfold pathOf
      rw [if_neg (by simp), List.flatMap_cons]
      rfl
    rw [e, if_neg (fun q => hn.1 (by have := (List.cons.inj q).2; exact (List.append_eq_nil_iff.1 this).1)), if_pos (show (47 :: (n ++ ns.flatMap (fun n => 47 :: n)) : List UInt8).getD 0 0 = 47 from rfl)]
    show scanP [] [] (n ++ _) = _
    rw [scanP_path ns n [] hn (fun x hx => hg x (List.mem_cons_of_mem _ hx)) (by simp only [List.length_cons] at hl; simp only [List.length_nil]; omega)]
    rfl
theorem walkTo_app : ∀ (ns : List (List UInt8)) (r t k : Tr) (n : List UInt8), walkTo r ns = some t → kidT t n = some k → walkTo r (ns ++ [n]) = some k
  | [], r, t, k, n, h, hk => by
    rw [walkTo] at h
    obtain rfl := Option.some.inj h
    rw [List.nil_append, walkTo, hk]
    rfl
  | m :: ns, r, t, k, n, h, hk => by
    rw [List.cons_append, walkTo]
    rw [walkTo] at h
    cases hc : kidT r m with
    | none =>
      rw [hc] at h
      cases h
    | some c =>
      rw [hc] at h
      exact walkTo_app ns c t k n h hk
theorem low12 {t : Tr} (h : tLow t = true) : tlow 12 t = true := by
  unfold tLow at h
  rw [Bool.and_eq_true] at h
  exact h.1
theorem splitA_ne (c : UInt8) : ∀ (l acc : List UInt8), splitA c acc l ≠ []
  | [], acc => by simp [splitA]
  | b :: l, acc => by
    rw [splitA]
    split
    · simp
    · exact splitA_ne c l _
theorem splitA_join (c : UInt8) : ∀ (l acc : List UInt8), Lib.join (splitA c acc l) [c] = acc ++ l
  | [], acc => by simp [splitA, Lib.join_cons, Lib.joinTail]
  | b :: l, acc => by
    rw [splitA]
    by_cases h : b = c
    · rw [if_pos h, Lib.join_cons]
      have ih := splitA_join c l []
      obtain ⟨x, r, e⟩ := List.exists_cons_of_ne_nil (splitA_ne c l [])
      rw [e] at ih ⊢
      rw [Lib.join_cons] at ih
      have h3 : Lib.joinTail [c] (x :: r) = ([c] ++ x) ++ Lib.joinTail [c] r := by simp [Lib.joinTail]
      rw [h3, List.append_assoc, ih, h]
      rfl
    · rw [if_neg h, splitA_join c l, List.append_assoc]
      rfl
attribute [local go_sem] go_seq go_skip go_region go_regionN go_fregion rgF_some go_cond go_block go_exit go_ret nxt_nil nxt_code nxt_blk nxt_cut leave_nil leave_code leave_cut leave_blk rtn_nil rtn_code rtn_blk rtn_cut cnd_t cnd_f rgn_nil rgY_some rgY_none rgH_some rgP_some retTo_is rgV_func grd_und grd_tt grd_ff grd_tf grd_ft rgn_q rgn_alloc rgn_box rgn_store rgn_lit rgn_litw litCells_nil litCells_cons rgn_app rgn_copy rgn_mk rgn_s2b rgn_call rgn_callv rgn_stop rgn_slice3 aslice3 rgn_slice3l aslice3l rgn_appz rgn_clear rgn_range rgn_next arange acap rgn_put rgn_mkmap rgn_lookup rgn_mapup alookup_nilm alookup_map amapup_map afound_ok afound_no rgn_c rgn_cv qclV_func aloadr rgn_guard post_ret post_normal retY_some ares aresL ares1 AX.ev aput List.getD_cons_zero List.getD_cons_succ List.set_cons_zero List.set_cons_succ List.map_cons List.map_nil aq abin aint astr abeq aconv asame aextract alenS alenL_nils alenL_emp alenL_imm alenL_wr alenL_wc aun apart aload afieldAddr afield aidxSl_wr aidxSl_wc aidxSl_imm aidxPt aidxStr aidxArr abound asliceStr asliceSl asliceArr abest anonil afill astore acells_nils acells_emp acells_imm acells_wr acells_wc acells_str acopy litAll amk as2b anil nilOf aseq aeqs aeqv fits fit1 hp_next hp_push hp_get hp_set List.length_cons List.length_nil List.getElem?_cons_zero List.getElem?_cons_succ List.cons_append List.nil_append List.append_nil List.take_succ_cons List.take_zero List.drop_succ_cons List.drop_zero List.all_cons List.all_nil Option.map_some Option.some.injEq Bool.and_true Bool.true_and Bool.false_eq_true if_true if_false ite_true ite_false Bool.and_self true_and and_true and_self Nat.zero_add Nat.le_refl Int.toNat_natCast beq_self_eq_true eq_self tops_zero tops_succ Int.natCast_nonneg List.take_nil List.drop_nil Option.map_none flat_bool one_bool cells_bool flat_int one_int cells_int flat_str one_str cells_str flat_nilp one_nilp cells_nilp flat_ptr one_ptr cells_ptr flat_nils one_nils cells_nils flat_imm one_imm cells_imm flat_wr one_wr cells_wr flat_wc one_wc cells_wc flat_func one_func cells_func flat_nilf one_nilf cells_nilf flat_map one_map cells_map flat_nilm one_nilm cells_nilm flat_iface one_iface cells_iface flat_nili one_nili cells_nili flat_rd one_rd cells_rd flat_emp one_emp cells_emp flat_byteV one_byteV cells_byteV flat_agg cells_agg one_agg B_size B_list B_ext B_toList B_app List.take_length Int.le_refl
theorem parts_join {p : List UInt8} {ns : List (List UInt8)} (h : partsP p = some ns) : joinPs ns = p := by
  unfold partsP at h
  by_cases h1 : p = [47]
  · rw [if_pos h1] at h
    obtain rfl := Option.some.inj h
    rw [h1]
    rfl
  · rw [if_neg h1] at h
    by_cases h2 : p.getD 0 0 = 47
    · rw [if_pos h2, scan_split _ _ _ (by simp), List.nil_append] at h
      split at h
      · obtain rfl := Option.some.inj h
        unfold joinPs
        rw [splitA_join, List.nil_append]
        cases p with
        | nil => revert h2; decide
        | cons c r =>
          have h2 : c = 47 := h2
          rw [h2]
          rfl
      · cases h
    · rw [if_neg h2] at h
      cases h
theorem accP_mem : ∀ {ls : List (List UInt8)} {s : List UInt8}, s ∈ ls → s.length ≤ (accP ls).length
  | x :: ls, s, h => by
    rw [accP_cons, List.length_append, List.length_cons]
    rcases List.mem_cons.1 h with e | e
    · rw [e]; omega
    · have := accP_mem e
      omega
theorem parts_mem {p : List UInt8} {ns : List (List UInt8)} (h : partsP p = some ns) : ∀ s ∈ ns, s.length ≤ p.length := fun s hs => by
  rw [← parts_join h, ← accP_join (fun e => by rw [e] at hs; cases hs)]
  exact accP_mem hs
/-- A tree of which each node has at most n properties and kids. -/
inductive TrM (n : Nat) : Tr → Prop
  | mk (name : List UInt8) (kp : Nat) (props : List (List UInt8 × List UInt8)) (kk : Nat) (kids : List Tr) : name.length ≤ 100000 → props.length ≤ n → (∀ p ∈ props, p.1.length ≤ 100000 ∧ p.2.length ≤ 100000) → kids.length ≤ n → (∀ k ∈ kids, TrM n k) → TrM n (.mk name kp props kk kids)
theorem TrM.n {n : Nat} {t : Tr} (h : TrM n t) : t.name.length ≤ 100000 := by cases h; assumption
theorem TrM.p {n : Nat} {t : Tr} (h : TrM n t) : t.props.length ≤ n := by cases h; assumption
theorem TrM.ps {n : Nat} {t : Tr} (h : TrM n t) : ∀ p ∈ t.props, p.1.length ≤ 100000 ∧ p.2.length ≤ 100000 := by cases h; assumption
theorem TrM.k {n : Nat} {t : Tr} (h : TrM n t) : t.kids.length ≤ n := by cases h; assumption
theorem TrM.ks {n : Nat} {t : Tr} (h : TrM n t) : ∀ k ∈ t.kids, TrM n k := by cases h; assumption
theorem trm_0 (n : Nat) : TrM n tr0 := .mk _ _ _ _ _ (by simp) (by simp) (by simp) (by simp) (by simp)
theorem trm_up {n m : Nat} {t : Tr} (hn : n ≤ m) (h : TrM n t) : TrM m t := by
  induction h with
  | mk nm kp ps kk ks h1 h2 h3 h4 _ ih => exact .mk nm kp ps kk ks h1 (by omega) h3 (by omega) ih
theorem trm_ok {n : Nat} {t : Tr} (hn : n ≤ 1000000) (h : TrM n t) : TrOk t := by
  induction h with
  | mk nm kp ps kk ks h1 h2 h3 h4 _ ih => exact .mk nm kp ps kk ks (by omega) (by omega) (fun p hp => by have := h3 p hp; omega) (by omega) ih
theorem trm_b {n : Nat} {t : Tr} (hn : n ≤ 1000000) (h : TrM n t) : TrB t := by
  induction h with
  | mk nm kp ps kk ks h1 h2 h3 h4 _ ih => exact .mk nm kp ps kk ks (by omega) (by omega) ih
theorem trm_strip {n : Nat} {t : Tr} (h : TrM n t) : TrM n t.strip := by
  induction h with
  | mk nm kp ps kk ks h1 h2 h3 h4 _ ih =>
    rw [Tr.strip_is]
    refine .mk nm 0 ps 0 _ h1 h2 h3 (by simpa using h4) (fun k hk => ?_)
    obtain ⟨k', hk', rfl⟩ := List.mem_map.1 hk
    exact ih k' hk'
theorem trm_of {m : Nat} : ∀ (n : Nat) (t : Tr), SizeOf.sizeOf t ≤ n → TrM m t.strip → TrM m t
  | 0, t, hn, h => by
    exfalso
    cases t
    simp at hn
  | n + 1, .mk nm kp ps kk ks, hn, h => by
    rw [Tr.strip_is] at h
    cases h with
    | mk _ _ _ _ _ h1 h2 h3 h4 h5 =>
      refine .mk nm kp ps kk ks h1 h2 h3 (by simpa using h4) (fun k hk => trm_of n k ?_ (h5 _ (List.mem_map_of_mem hk)))
      have h6 : SizeOf.sizeOf k < SizeOf.sizeOf ks := List.sizeOf_lt_of_mem hk
      have h7 : SizeOf.sizeOf ks < SizeOf.sizeOf (Tr.mk nm kp ps kk ks) := by simp; omega
      omega
theorem trm_same {m : Nat} {t u : Tr} (he : t.strip = u.strip) (h : TrM m u) : TrM m t := trm_of _ t (Nat.le_refl _) (by rw [he]; exact trm_strip h)
theorem trm_low : ∀ (l : Nat) (t : Tr), tlow l t = true → TrM 300 t
  | 0, t, h => by
    rw [tlow] at h
    cases h
  | l + 1, .mk nm kp ps kk ks, h => by
    rw [tlow] at h
    simp only [Bool.and_eq_true, decide_eq_true_eq, List.all_eq_true] at h
    obtain ⟨⟨⟨⟨h1, h2⟩, h3⟩, h4⟩, h5⟩ := h
    refine .mk nm kp ps kk ks (Nat.le_trans h1 (by decide)) h2 (fun p hp => ?_) (Nat.le_trans h3 (by decide)) (fun k hk => trm_low l k (h5 k hk))
    have := h4 p hp
    unfold plow at this
    simp only [Bool.and_eq_true, decide_eq_true_eq] at this
    omega
theorem repl_mem {nm : List UInt8} {f : Tr → Tr × Int} : ∀ {ks : List Tr} {r : List Tr × Int}, repl nm f ks = some r → r.1.length = ks.length ∧ ∀ k ∈ r.1, k ∈ ks ∨ ∃ k0 ∈ ks, k = (f k0).1 ∧ r.2 = (f k0).2
  | [], r, h => by cases h
  | k :: ks, r, h => by
    rw [repl] at h
    by_cases hk : k.name = nm
    · rw [if_pos hk] at h
      obtain rfl := Option.some.inj h
      refine ⟨rfl, fun x hx => ?_⟩
      rcases List.mem_cons.1 hx with e | e
      · exact .inr ⟨k, List.mem_cons_self, e, rfl⟩
      · exact .inl (List.mem_cons_of_mem _ e)
    · rw [if_neg hk] at h
      cases hr : repl nm f ks with
      | none => rw [hr] at h; cases h
      | some q =>
        rw [hr] at h
        obtain rfl := Option.some.inj h
        obtain ⟨h1, h2⟩ := repl_mem hr
        refine ⟨by simp [h1], fun x hx => ?_⟩
        rcases List.mem_cons.1 hx with e | e
        · exact .inl (by rw [e]; exact List.mem_cons_self)
        · rcases h2 x e with q1 | ⟨k0, q1, q2⟩
          · exact .inl (List.mem_cons_of_mem _ q1)
          · exact .inr ⟨k0, List.mem_cons_of_mem _ q1, q2⟩
/-- What a change leaves of sizes. -/
def KeepM (n : Nat) (f : Tr → Tr × Int) : Prop := ∀ t, TrM n t → (f t).2 = 0 → TrM (n + 1) (f t).1
theorem downS_m {n : Nat} {f : Tr → Tr × Int} (hf : KeepM n f) : ∀ (ns : List (List UInt8)), KeepM n (downS f ns)
  | [], t, h, he => by
    rw [downS] at he ⊢
    exact hf t h he
  | nm :: ns, t, h, he => by
    rw [downS] at he ⊢
    cases hr : repl nm (downS f ns) t.kids with
    | none => rw [hr] at he; exact absurd (show (8 : Int) = 0 from he) (by decide)
    | some r =>
      rw [hr] at he
      have he : r.2 = 0 := he
      obtain ⟨h1, h2⟩ := repl_mem hr
      have hp := h.p
      have hk := h.k
      refine .mk _ _ _ _ _ h.n (by omega) h.ps (by omega) (fun k hk => ?_)
      rcases h2 k hk with q | ⟨k0, q1, q2, q3⟩
      · exact trm_up (Nat.le_succ _) (h.ks k q)
      · rw [q2]
        exact downS_m hf ns k0 (h.ks k0 q1) (by rw [← q3]; exact he)
theorem changedS_m {n : Nat} {f : Tr → Tr × Int} {p : List UInt8} {t : Tr} (hf : KeepM n f) (h : TrM n t) : TrM (n + 1) (changedS f p t).1 := by
  unfold changedS
  split
  · exact trm_0 _
  · rename_i ns _
    split
    · rename_i he
      show TrM (n + 1) (if _ then _ else _)
      split
      · exact downS_m hf ns t h he
      · exact trm_0 _
    · exact trm_0 _
theorem setPr_m (nm v : List UInt8) : ∀ l : List (List UInt8 × List UInt8), (setPr nm v l).length ≤ l.length + 1 ∧ ∀ p ∈ setPr nm v l, p ∈ l ∨ (p.2 = v ∧ p.1 = nm)
  | [] => ⟨by simp [setPr], fun p hp => .inr (by rw [setPr, List.mem_singleton] at hp; rw [hp]; exact ⟨rfl, rfl⟩)⟩
  | x :: l => by
    rw [setPr]
    split
    · rename_i hx
      refine ⟨by simp, fun p hp => ?_⟩
      rcases List.mem_cons.1 hp with e | e
      · exact .inr (by rw [e]; exact ⟨rfl, hx⟩)
      · exact .inl (List.mem_cons_of_mem _ e)
    · obtain ⟨h1, h2⟩ := setPr_m nm v l
      refine ⟨by simp; omega, fun p hp => ?_⟩
      rcases List.mem_cons.1 hp with e | e
      · exact .inl (by rw [e]; exact List.mem_cons_self)
      · exact (h2 p e).imp (fun q => List.mem_cons_of_mem _ q) id
theorem setF_m {n : Nat} {nm v : List UInt8} (hn : nm.length ≤ 100000) (hv : v.length ≤ 100000) : KeepM n (setF nm v) := fun t h he => by
  unfold setF at he ⊢
  split at he
  · rename_i hm
    rw [if_pos hm]
    obtain ⟨h1, h2⟩ := setPr_m nm v t.props
    have hp := h.p
    have hk := h.k
    refine .mk _ _ _ _ _ h.n (by omega) (fun p hp => ?_) (by omega) (fun k hk => trm_up (Nat.le_succ _) (h.ks k hk))
    rcases h2 p hp with q | ⟨q1, q2⟩
    · exact h.ps p q
    · rw [q1, q2]
      exact ⟨hn, hv⟩
  · exact absurd (show (1 : Int) = 0 from he) (by decide)
theorem cutF_m {α : Type} {p : α → Bool} : ∀ {l r : List α}, cutF p l = some r → r.length + 1 = l.length ∧ ∀ x ∈ r, x ∈ l
  | [], r, h => by cases h
  | x :: l, r, h => by
    rw [cutF] at h
    split at h
    · obtain rfl := Option.some.inj h
      exact ⟨rfl, fun y hy => List.mem_cons_of_mem _ hy⟩
    · cases hr : cutF p l with
      | none => rw [hr] at h; cases h
      | some q =>
        rw [hr] at h
        obtain rfl := Option.some.inj h
        obtain ⟨h1, h2⟩ := cutF_m hr
        refine ⟨by simp; omega, fun y hy => ?_⟩
        rcases List.mem_cons.1 hy with e | e
        · rw [e]; exact List.mem_cons_self
        · exact List.mem_cons_of_mem _ (h2 y e)
theorem unsetF_m {n : Nat} {nm : List UInt8} : KeepM n (unsetF nm) := fun t h he => by
  unfold unsetF at he ⊢
  cases hc : cutF (fun x : List UInt8 × List UInt8 => decide (x.1 = nm)) t.props with
  | none => rw [hc] at he; exact absurd (show (8 : Int) = 0 from he) (by decide)
  | some ps =>
    obtain ⟨h1, h2⟩ := cutF_m hc
    have hp := h.p
    have hk := h.k
    exact .mk _ _ _ _ _ h.n (by omega) (fun p hp => h.ps p (h2 p hp)) (by omega) (fun k hk => trm_up (Nat.le_succ _) (h.ks k hk))
theorem dropF_m {n : Nat} {nm : List UInt8} : KeepM n (dropF nm) := fun t h he => by
  unfold dropF at he ⊢
  cases hc : cutF (fun k : Tr => decide (k.name = nm)) t.kids with
  | none => rw [hc] at he; exact absurd (show (8 : Int) = 0 from he) (by decide)
  | some ks =>
    obtain ⟨h1, h2⟩ := cutF_m hc
    have hp := h.p
    have hk := h.k
    exact .mk _ _ _ _ _ h.n (by omega) h.ps (by omega) (fun k hk => trm_up (Nat.le_succ _) (h.ks k (h2 k hk)))
theorem addF_m {n : Nat} {nm : List UInt8} (hn : nm.length ≤ 100000) : KeepM n (addF nm) := fun t h he => by
  unfold addF at he ⊢
  split at he
  · rename_i hm
    rw [if_pos hm]
    split at he
    · exact absurd (show (12 : Int) = 0 from he) (by decide)
    · rename_i hk
      rw [if_neg hk]
      have hp := h.p
      have hk := h.k
      refine .mk _ _ _ _ _ h.n (by omega) h.ps (by rw [List.length_append, List.length_singleton]; omega) (fun k hk => ?_)
      rcases List.mem_append.1 hk with q | q
      · exact trm_up (Nat.le_succ _) (h.ks k q)
      · rw [List.mem_singleton] at q
        rw [q]
        exact .mk _ _ _ _ _ hn (by simp) (by simp) (by simp) (by simp)
  · exact absurd (show (1 : Int) = 0 from he) (by decide)
/-! ### what is found, of trees that are alike -/
theorem kidT_strip (t : Tr) (n : List UInt8) : kidT t.strip n = (kidT t n).map Tr.strip := by
  unfold kidT
  rw [Tr.strip_kids, List.find?_map]
  congr 1
  refine congrArg (fun q => List.find? q t.kids) ?_
  funext k
  show nameIs n k.strip = nameIs n k
  unfold nameIs
  rw [Tr.strip_name]
theorem valT_strip (t : Tr) (n : List UInt8) : valT t.strip n = valT t n := by
  unfold valT
  rw [Tr.strip_props]
theorem walkTo_strip : ∀ (ns : List (List UInt8)) (t : Tr), walkTo t.strip ns = (walkTo t ns).map Tr.strip
  | [], t => rfl
  | n :: ns, t => by
    rw [walkTo, walkTo, kidT_strip]
    cases kidT t n with
    | none => rfl
    | some k => exact walkTo_strip ns k
theorem findT_strip (t : Tr) (p : List UInt8) : findT t.strip p = (findT t p).map Tr.strip := by
  unfold findT
  cases partsP p with
  | none => rfl
  | some ns => exact walkTo_strip ns t
section
variable {H : AHeap} {K : AV → AHeap → Prop}
theorem same_b : ∀ (l : Nat) (t u : Tr) (H : AHeap) (K : AV → AHeap → Prop), l ≤ 100 → TrOk t → TrOk u → t.strip = u.strip → K (.bool true) H → (ACalls Tryd.prog) 26 [t.V, u.V, .int .i64 (l : Int)] H K
  | 0, t, u, H, K, hl, ho, ho2, he, h => by
    refine acalls_go mo t26 (fun hs hu => ?_)
    simp only [c26, Tr.V_is, Int.ofNat_zero, Int.natCast_zero, go_sem, Nat.reduceLeDiff, Nat.reduceAdd, Nat.reduceSub, Nat.reduceMul, Nat.reduceLT, Int.reduceLT, Int.reduceLE, Int.reduceAdd, Int.reduceSub, Int.reduceMul, Int.reduceToNat, Int.reduceNeg, Int.reduceEq, Nat.reducePow, Int.reducePow, Nat.reduceEqDiff, decide_true, decide_false, reduceIte, reduceCtorEq, Int.reduceBEq, Int.reduceBNe, bne_self_eq_false, Int.cast_ofNat_Int, Bool.not_true, Bool.not_false, IntKind.bits]
    exact aret_u hs (h)
  | l + 1, t, u, H, K, hl, ho, ho2, he, h => by
    refine acalls_go mo t26 (fun hs hu => ?_)
    have ih := same_b l
    have hkl := ho.k
    have hkl2 := ho2.k
    have e1 : t.name = u.name := by rw [← Tr.strip_name t, he, Tr.strip_name]
    have e2 : t.props = u.props := by rw [← Tr.strip_props t, he, Tr.strip_props]
    have e3 : t.kids.map Tr.strip = u.kids.map Tr.strip := by rw [← Tr.strip_kids t, he, Tr.strip_kids]
    have e4 : t.kids.length = u.kids.length := by
      have := congrArg List.length e3
      simpa using this
    have hrt := trRow_is t
    have hru := trRow_is u
    rw [e1, e2] at hrt
    simp only [c26, Tr.V_is, e1, e2, go_sem, Nat.reduceLeDiff, Nat.reduceAdd, Nat.reduceSub, Nat.reduceMul, Nat.reduceLT, Int.reduceLT, Int.reduceLE, Int.reduceAdd, Int.reduceSub, Int.reduceMul, Int.reduceToNat, Int.reduceNeg, Int.reduceEq, Nat.reducePow, Int.reducePow, Nat.reduceEqDiff, decide_true, decide_false, reduceIte, reduceCtorEq, Int.reduceBEq, Int.reduceBNe, bne_self_eq_false, Int.cast_ofNat_Int, Bool.not_true, Bool.not_false, IntKind.bits]
    simp (maxSteps := 4000000) (disch := (first | omega | (simp only [set_next, List.length_append, List.length_cons, List.length_nil, List.length_take, List.length_drop, List.length_map, List.length_set, List.length_replicate]; omega) | (simp only [set_next, ne_eq, reduceCtorEq, not_false_eq_true]))) only [B_toList, beq_self_eq_true, bne_self_eq_false, go_sem, Nat.reduceLeDiff, Nat.reduceAdd, Nat.reduceSub, Nat.reduceMul, Nat.reduceLT, Int.reduceLT, Int.reduceLE, Int.reduceAdd, Int.reduceSub, Int.reduceMul, Int.reduceToNat, Int.reduceNeg, Int.reduceEq, Nat.reducePow, Int.reducePow, Nat.reduceEqDiff, decide_true, decide_false, reduceIte, reduceCtorEq, Int.reduceBEq, Int.reduceBNe, bne_self_eq_false, Int.cast_ofNat_Int, Bool.not_true, Bool.not_false, IntKind.bits, w_nat, w_lit, w_add, w_addl, w_ladd, w_sub, w_subl, w_lsub, w_mul, w_mull, w_lmul, t_div, t_divl, t_mod, t_modl, i_lt, i_ltl, i_llt, i_le, i_lel, i_lle, i_eq, i_eql, i_leq, Nat.zero_le, d_beq, d_bne, d_bytes, byte_at, Int.toNat_natCast, toNat_lit, decide_eq_true, decide_eq_false, if_pos, if_neg, slA_len, slA_idx, slA_cells, flat_slA, one_slA, cells_slA, map_mid, strV_is, hp_get1, hp_get2, hp_get3, hp_set1, hp_set2, hp_set3, hp_old, hp_sold, set_got, set_set, set_next, set_other, bytesL, bytes_all, List.length_map, aapp_nils, aapp_wr, List.flatMap_cons, List.flatMap_nil, Nat.mul_one]
    refine sameProps_a ho2.p ?_
    simp (maxSteps := 4000000) (disch := (first | omega | (simp only [set_next, List.length_append, List.length_cons, List.length_nil, List.length_take, List.length_drop, List.length_map, List.length_set, List.length_replicate]; omega) | (simp only [set_next, ne_eq, reduceCtorEq, not_false_eq_true]))) only [bne_self_eq_false, e4, go_sem, Nat.reduceLeDiff, Nat.reduceAdd, Nat.reduceSub, Nat.reduceMul, Nat.reduceLT, Int.reduceLT, Int.reduceLE, Int.reduceAdd, Int.reduceSub, Int.reduceMul, Int.reduceToNat, Int.reduceNeg, Int.reduceEq, Nat.reducePow, Int.reducePow, Nat.reduceEqDiff, decide_true, decide_false, reduceIte, reduceCtorEq, Int.reduceBEq, Int.reduceBNe, bne_self_eq_false, Int.cast_ofNat_Int, Bool.not_true, Bool.not_false, IntKind.bits, w_nat, w_lit, w_add, w_addl, w_ladd, w_sub, w_subl, w_lsub, w_mul, w_mull, w_lmul, t_div, t_divl, t_mod, t_modl, i_lt, i_ltl, i_llt, i_le, i_lel, i_lle, i_eq, i_eql, i_leq, Nat.zero_le, d_beq, d_bne, d_bytes, byte_at, Int.toNat_natCast, toNat_lit, decide_eq_true, decide_eq_false, if_pos, if_neg, slA_len, slA_idx, slA_cells, flat_slA, one_slA, cells_slA, map_mid, strV_is, hp_get1, hp_get2, hp_get3, hp_set1, hp_set2, hp_set3, hp_old, hp_sold, set_got, set_set, set_next, set_other, bytesL, bytes_all, List.length_map, aapp_nils, aapp_wr, List.flatMap_cons, List.flatMap_nil, Nat.mul_one]
    refine go_loopS mono (σ := Nat) (fun i => [(7, .int .i64 (i : Int))]) (fun i => hp H [trRow t, trRow u]) (fun i => i ≤ u.kids.length) (fun i => u.kids.length - i) 0 ?_ ?_ (Nat.zero_le _) (fun i hi J hJ => ?_)
    · exact fgt
    · rw [hrt, hru]
    have hil : i ≤ u.kids.length := hi
    rw [hrt, hru]
    rw [hrt, hru] at hJ
    simp only [blurR_nil, blurR_some, blurR_none, blurC_region, blurC_regionN, blurC_fregion, blurT_nil, blurT_cons, blurC_seq, blurC_both, blurC_cond, blurC_block, blurC_loop, blurC_skip, blurC_exit, blurC_ret, tellS_nil, tellS_cons, List.set_cons_zero, List.set_cons_succ, tops_zero, tops_succ]
    by_cases h1 : i < u.kids.length
    · have h1' : i < t.kids.length := by omega
      have ha := tr_at h1'
      have ha2 := tr_at h1
      have hok := ho.ks _ (tr_mem h1')
      have hok2 := ho2.ks _ (tr_mem h1)
      have hee : (t.kids.getD i tr0).strip = (u.kids.getD i tr0).strip := by
        have := congrArg (fun x => x.getD i tr0.strip) e3
        simp only [List.getD_eq_getElem?_getD, List.getElem?_map] at this
        rw [List.getD_eq_getElem?_getD, List.getD_eq_getElem?_getD]
        rw [List.getElem?_eq_getElem h1', List.getElem?_eq_getElem h1] at this ⊢
        exact this
      generalize t.kids.getD i tr0 = k at *
      generalize u.kids.getD i tr0 = k2 at *
      have hVc := Tr.V_cells k
      have hVi := Tr.V_is k
      have hVc2 := Tr.V_cells k2
      have hVi2 := Tr.V_is k2
      refine stp (And.intro ha (And.intro hVc (And.intro ha2 hVc2))) ?_
      rw [← hVi, ← hVi2]
      refine ih _ _ _ _ (by omega) hok hok2 hee ?_
      refine stp0 ?_
      exact hJ (i + 1) _ h1 (by omega) fgt
    · refine stp0 ?_
      exact aret_u hs (h)
theorem Same_b {t u : Tr} (ho : TrOk t) (ho2 : TrOk u) (he : t.strip = u.strip) (h : K (.bool true) H) : (ACalls Tryd.prog) 11 [t.V, u.V] H K := by
  refine acalls_go mo t11 (fun hs hu => ?_)
  have hVi := Tr.V_is t
  have hVi2 := Tr.V_is u
  simp only [c11, Tr.V_is, go_sem, Nat.reduceLeDiff, Nat.reduceAdd, Nat.reduceSub, Nat.reduceMul, Nat.reduceLT, Int.reduceLT, Int.reduceLE, Int.reduceAdd, Int.reduceSub, Int.reduceMul, Int.reduceToNat, Int.reduceNeg, Int.reduceEq, Nat.reducePow, Int.reducePow, Nat.reduceEqDiff, decide_true, decide_false, reduceIte, reduceCtorEq, Int.reduceBEq, Int.reduceBNe, bne_self_eq_false, Int.cast_ofNat_Int, Bool.not_true, Bool.not_false, IntKind.bits]
  rw [← hVi, ← hVi2]
  refine same_b 20 t u _ _ (by omega) ho ho2 he ?_
  refine stp0 ?_
  exact aret_u hs (h)
end
theorem hns_of {p : List UInt8} : ∀ ns, partsP p = some ns → ns.length ≤ 100000 := fun ns h => by
  have := partsP_le h
  omega
theorem hok_of {n : Nat} {f : Tr → Tr × Int} {t : Tr} (hn : n ≤ 100000) (hf : KeepM n f) (ht : TrM n t) : ∀ ns, (downS f ns t.strip).2 = 0 → TrOk (downS f ns t.strip).1 := fun ns he => trm_ok (Nat.le_trans (Nat.succ_le_succ hn) (by decide)) (downS_m hf ns _ (trm_strip ht) he)
def dropS (p : List UInt8) (t : Tr) : Tr × Int := match partsP p with
  | none => (tr0, 8)
  | some ns => if ns = [] then (tr0, 1) else changedS (dropF (ns.getD (ns.length - 1) [])) (joinPs (ns.take (ns.length - 1))) t
section
variable {H : AHeap} {K : AV → AHeap → Prop}
theorem Set_m {n : Nat} {t : Tr} {p nm v : List UInt8} (hn : n ≤ 100000) (ht : TrM n t) (hnm : nm.length ≤ 1000) (hv_ : v.length ≤ 100000) (hp_ : p.length ≤ 90000)
    (h : ∀ t' : Tr, t'.strip = (changedS (setF nm v) p t.strip).1.strip → K (.tup [t'.V, .int .i64 (changedS (setF nm v) p t.strip).2]) H) :
    (ACalls Tryd.prog) 14 [t.V, .str (B p), .str (B nm), .str (B v)] H K :=
  Set_a hnm hv_ (trm_ok (by omega) ht) (trm_b (by omega) ht) (trm_b (by omega) (trm_strip ht)) (by omega) (hok_of hn (setF_m (by omega) hv_) ht) hns_of h
theorem Unset_m {n : Nat} {t : Tr} {p nm : List UInt8} (hn : n ≤ 100000) (ht : TrM n t) (hp_ : p.length ≤ 90000)
    (h : ∀ t' : Tr, t'.strip = (changedS (unsetF nm) p t.strip).1.strip → K (.tup [t'.V, .int .i64 (changedS (unsetF nm) p t.strip).2]) H) :
    (ACalls Tryd.prog) 16 [t.V, .str (B p), .str (B nm)] H K :=
  Unset_a (trm_ok (by omega) ht) (trm_b (by omega) ht) (trm_b (by omega) (trm_strip ht)) (by omega) (hok_of hn unsetF_m ht) hns_of h
theorem Add_m {n : Nat} {t : Tr} {p nm : List UInt8} (hn : n ≤ 100000) (ht : TrM n t) (hnm : nm.length ≤ 1000) (hp_ : p.length ≤ 90000)
    (h : ∀ t' : Tr, t'.strip = (changedS (addF nm) p t.strip).1.strip → K (.tup [t'.V, .int .i64 (changedS (addF nm) p t.strip).2]) H) :
    (ACalls Tryd.prog) 17 [t.V, .str (B p), .str (B nm)] H K :=
  Add_a hnm (trm_ok (by omega) ht) (trm_b (by omega) ht) (trm_b (by omega) (trm_strip ht)) (by omega) (hok_of hn (addF_m (by omega)) ht) hns_of h
theorem joins_take {p : List UInt8} {ns : List (List UInt8)} (h : partsP p = some ns) (hp_ : p.length ≤ 5000) (i : Nat) : (ns.take i).length ≤ 65536 ∧ (∀ s ∈ ns.take i, s.length ≤ 65536) ∧ (joinPs (ns.take i)).length ≤ 50000 := by
  have h8 := partsP_le h
  have hm : ∀ s ∈ ns.take i, s.length ≤ 5000 := fun s hs => Nat.le_trans (parts_mem h s (List.mem_of_mem_take hs)) hp_
  have hl : (ns.take i).length ≤ 8 := by rw [List.length_take]; omega
  have hj := joinPs_len hm
  have := Nat.mul_le_mul_right (5000 + 1) hl
  refine ⟨by omega, fun s hs => Nat.le_trans (hm s hs) (by decide), by omega⟩
theorem Drop_m {n : Nat} {t : Tr} {p : List UInt8} (hn : n ≤ 100000) (ht : TrM n t) (hp_ : p.length ≤ 5000)
    (h : ∀ t' : Tr, t'.strip = (dropS p t.strip).1.strip → K (.tup [t'.V, .int .i64 (dropS p t.strip).2]) H) :
    (ACalls Tryd.prog) 18 [t.V, .str (B p)] H K := by
  refine acalls_go mo t18 (fun hs hu => ?_)
  have hVi := Tr.V_is t
  unfold dropS at h
  simp only [c18, Tr.V_is, go_sem, Nat.reduceLeDiff, Nat.reduceAdd, Nat.reduceSub, Nat.reduceMul, Nat.reduceLT, Int.reduceLT, Int.reduceLE, Int.reduceAdd, Int.reduceSub, Int.reduceMul, Int.reduceToNat, Int.reduceNeg, Int.reduceEq, Nat.reducePow, Int.reducePow, Nat.reduceEqDiff, decide_true, decide_false, reduceIte, reduceCtorEq, Int.reduceBEq, Int.reduceBNe, bne_self_eq_false, Int.cast_ofNat_Int, Bool.not_true, Bool.not_false, IntKind.bits]
  refine Parts_a (by omega) (fun k => ?_)
  cases hpp : partsP p with
  | none =>
    rw [hpp] at h
    have hx := h tr0 rfl
    rw [tr0_V] at hx
    rw [partsV_n]
    refine stp0 ?_
    exact aret_plain hs (by simp only [u_top, u_bool, u_int, u_str, u_nilp, u_nils, u_nilf, u_nilm, u_nili, u_emp, u_byteV, u_ptr, u_wr, u_wc, u_agg, u_tup, u_rd, u_imm, u_func, u_nil, u_cons, u_app, uc_nil, uc_cons, uc_app, u_bytes, uc_bytes, u_ints, uc_ints, cells_bool, cells_int, cells_str, cells_agg, cells_ptr, cells_nils, cells_imm, cells_wr, cells_wc, cells_nilp, cells_nilf, cells_nilm, cells_rd, cells_emp, cells_byteV, cells_func, and_self, and_true, true_and, u_slA, uc_strs, cells_slA, strV_is]) hx
  | some ns =>
    rw [hpp] at h
    rw [partsV_s]
    by_cases h0 : ns = []
    · subst h0
      have hx := h tr0 rfl
      rw [tr0_V] at hx
      have hx : K (.tup [.agg [.str (B []), .nils, .nils], .int .i64 1]) H := hx
      refine stp0 ?_
      exact aret_plain hs (by simp only [u_top, u_bool, u_int, u_str, u_nilp, u_nils, u_nilf, u_nilm, u_nili, u_emp, u_byteV, u_ptr, u_wr, u_wc, u_agg, u_tup, u_rd, u_imm, u_func, u_nil, u_cons, u_app, uc_nil, uc_cons, uc_app, u_bytes, uc_bytes, u_ints, uc_ints, cells_bool, cells_int, cells_str, cells_agg, cells_ptr, cells_nils, cells_imm, cells_wr, cells_wc, cells_nilp, cells_nilf, cells_nilm, cells_rd, cells_emp, cells_byteV, cells_func, and_self, and_true, true_and, u_slA, uc_strs, cells_slA, strV_is]) hx
    · have hl := List.length_pos_iff.2 h0
      have h8 := partsP_le hpp
      simp only [h0, if_false] at h
      obtain ⟨j1, j2, j3⟩ := joins_take hpp hp_ (ns.length - 1)
      obtain ⟨k2, e2⟩ := slA_cut k 1 (ns.map strV) (i := ns.length - 1) (by rw [List.length_map]; omega)
      rw [← List.map_take] at e2
      have e2 : asliceSl 1 (slA k 1 (ns.map strV)) none (some (.int .i64 ((ns.length - 1 : Nat) : Int))) = some (slA k2 1 ((ns.take (ns.length - 1)).map strV)) := e2
      simp only [asliceSl, abound] at e2
      refine stp e2 ?_
      refine ⟨_, Join_a j1 j2 ⟨rfl, rfl⟩, ?_⟩
      refine stp0 ?_
      rw [← hVi]
      refine changed_a (dropDo (names := ns) (last := ns.length - 1) (hp_get _ _ 2) (hp_get _ _ 3) (by omega)) (trm_ok (by omega) ht) (trm_b (by omega) ht) (trm_b (by omega) (trm_strip ht)) (by omega) (fun c hc => ?_) (hok_of hn dropF_m ht) hns_of (fun t' ht' => ?_)
      · simp only [List.mem_cons, List.mem_nil_iff, or_false] at hc
        rcases hc with rfl | rfl
        · exact .ptr _ _ _ (by show H.next + 2 < H.next + 4; omega)
        · exact .ptr _ _ _ (by show H.next + 3 < H.next + 4; omega)
      · have hx := h t' ht'
        have hV2 := Tr.V_is t'
        have hVu := Tr.V_u H.next t'
        rw [hV2] at hx hVu
        refine stp hV2 ?_
        refine aret_plain hs ?_ hx
        simp only [u_tup, u_cons, u_nil, u_int, and_true]
        exact hVu
end
def makeL (ns : List (List UInt8)) : Nat → Nat → Tr → Tr × Int
  | 0, _, t => (if fitsE t = 0 then t else tr0, fitsE t)
  | m + 1, k, t => if (findT t (joinPs (ns.take (k + 1)))).isSome = true then makeL ns m (k + 1) t else
    if (changedS (addF (ns.getD k [])) (joinPs (ns.take k)) t).2 = 0 then makeL ns m (k + 1) (changedS (addF (ns.getD k [])) (joinPs (ns.take k)) t).1.strip else (tr0, (changedS (addF (ns.getD k [])) (joinPs (ns.take k)) t).2)
def makeS (p : List UInt8) (t : Tr) : Tr × Int := match partsP p with
  | none => (tr0, 8)
  | some ns => makeL ns ns.length 0 t
theorem getD_mem {α : Type} {l : List α} {i : Nat} {d : α} (h : i < l.length) : l.getD i d ∈ l := by
  rw [List.getD_eq_getElem?_getD, List.getElem?_eq_getElem h]
  exact List.getElem_mem _
section
variable {H : AHeap} {K : AV → AHeap → Prop}
theorem Make_m {n : Nat} {t : Tr} {p : List UInt8} (hn : n ≤ 90000) (ht : TrM n t) (hp_ : p.length ≤ 900)
    (h : ∀ t' : Tr, t'.strip = (makeS p t.strip).1.strip → K (.tup [t'.V, .int .i64 (makeS p t.strip).2]) H) :
    (ACalls Tryd.prog) 21 [t.V, .str (B p)] H K := by
  refine acalls_go mo t21 (fun hs hu => ?_)
  have hVi := Tr.V_is t
  unfold makeS at h
  simp only [c21, Tr.V_is, go_sem, Nat.reduceLeDiff, Nat.reduceAdd, Nat.reduceSub, Nat.reduceMul, Nat.reduceLT, Int.reduceLT, Int.reduceLE, Int.reduceAdd, Int.reduceSub, Int.reduceMul, Int.reduceToNat, Int.reduceNeg, Int.reduceEq, Nat.reducePow, Int.reducePow, Nat.reduceEqDiff, decide_true, decide_false, reduceIte, reduceCtorEq, Int.reduceBEq, Int.reduceBNe, bne_self_eq_false, Int.cast_ofNat_Int, Bool.not_true, Bool.not_false, IntKind.bits]
  refine Parts_a (by omega) (fun k => ?_)
  cases hpp : partsP p with
  | none =>
    rw [hpp] at h
    have hx := h tr0 rfl
    rw [tr0_V] at hx
    rw [partsV_n]
    refine stp0 ?_
    exact aret_plain hs (by simp only [u_top, u_bool, u_int, u_str, u_nilp, u_nils, u_nilf, u_nilm, u_nili, u_emp, u_byteV, u_ptr, u_wr, u_wc, u_agg, u_tup, u_rd, u_imm, u_func, u_nil, u_cons, u_app, uc_nil, uc_cons, uc_app, u_bytes, uc_bytes, u_ints, uc_ints, cells_bool, cells_int, cells_str, cells_agg, cells_ptr, cells_nils, cells_imm, cells_wr, cells_wc, cells_nilp, cells_nilf, cells_nilm, cells_rd, cells_emp, cells_byteV, cells_func, and_self, and_true, true_and, u_slA, uc_strs, cells_slA, strV_is]) hx
  | some ns =>
    rw [hpp] at h
    simp only at h
    rw [partsV_s]
    have h8 := partsP_le hpp
    have hmem := parts_mem hpp
    refine stp0 ?_
    rw [← hp_nil (H := hp H _)]
    refine go_loopS mono (σ := AHeap × Tr × Nat) (fun z => [(23, .int .i64 (z.2.2 : Int))]) (fun z => hp z.1 []) (fun z => Past H z.1 ∧ z.2.2 ≤ ns.length ∧ TrM (n + z.2.2) z.2.1 ∧ makeL ns (ns.length - z.2.2) z.2.2 z.2.1.strip = makeL ns ns.length 0 t.strip ∧ z.1.get (H.next + 0) = some (trRow z.2.1) ∧ z.1.get (H.next + 1) = some (trRow tr0)) (fun z => ns.length - z.2.2) (hp H [trRow t, trRow tr0], t, 0) ?_ rfl ⟨past_hp past_refl _, Nat.zero_le _, ht, rfl, hp_get _ _ 0, hp_get _ _ 1⟩ (fun z hz J hJ => ?_)
    · exact fgt
    obtain ⟨G, u, i⟩ := z
    obtain ⟨hG, hil, hum, hmk, hg0, hg1⟩ := hz
    simp only at hG hil hum hmk hg0 hg1
    have hl0 := G.lt hg0
    have hl1 := G.lt hg1
    have huo := trm_ok (by omega) hum
    have hVu := Tr.V_is u
    rw [trRow_is] at hg0 hg1
    simp only [blurR_nil, blurR_some, blurR_none, blurC_region, blurC_regionN, blurC_fregion, blurT_nil, blurT_cons, blurC_seq, blurC_both, blurC_cond, blurC_block, blurC_loop, blurC_skip, blurC_exit, blurC_ret, tellS_nil, tellS_cons, List.set_cons_zero, List.set_cons_succ, tops_zero, tops_succ]
    by_cases h1 : i < ns.length
    · have hJ2 := fun (G2 : AHeap) (u2 : Tr) (p1 : Past H G2) (p2 : TrM (n + (i + 1)) u2) p3 p4 p5 a' => hJ (G2, u2, i + 1) a' ⟨p1, h1, p2, p3, p4, p5⟩ (by show ns.length - (i + 1) < ns.length - i; omega)
      clear hJ
      obtain ⟨m, hm⟩ : ∃ m, ns.length - i = m + 1 := ⟨ns.length - i - 1, by omega⟩
      have hm2 : ns.length - (i + 1) = m := by omega
      rw [hm, makeL] at hmk
      simp only [hm2] at hJ2
      obtain ⟨j1, j2, j3⟩ := joins_take hpp (by omega) (i + 1)
      obtain ⟨q1, q2, q3⟩ := joins_take hpp (by omega) i
      obtain ⟨k2, e2⟩ := slA_cut k 1 (ns.map strV) (i := i + 1) (by rw [List.length_map]; omega)
      obtain ⟨k3, e3⟩ := slA_cut k 1 (ns.map strV) (i := i) (by rw [List.length_map]; omega)
      rw [← List.map_take] at e2 e3
      simp only [asliceSl, abound] at e2 e3
      have hat := strs_at h1
      have hnl : (ns.getD i []).length ≤ 900 := Nat.le_trans (hmem _ (getD_mem h1)) hp_
      refine stp (And.intro hg0 e2) ?_
      refine ⟨_, Join_a j1 j2 ⟨rfl, rfl⟩, ?_⟩
      refine stp0 ?_
      rw [← hVu]
      refine Find_a huo (by omega) ?_
      rw [foundV_is]
      have hfs : (findT u.strip (joinPs (ns.take (i + 1)))).isSome = (findT u (joinPs (ns.take (i + 1)))).isSome := by rw [findT_strip, Option.isSome_map]
      rw [hfs] at hmk
      cases hf : (findT u (joinPs (ns.take (i + 1)))).isSome with
      | true =>
        rw [hf, if_pos rfl] at hmk
        generalize (findT u (joinPs (ns.take (i + 1)))).getD tr0 = fu at *
        refine stp0 ?_
        rw [← hp_nil (H := hp G _)]
        refine hJ2 _ u (past_hp hG _) (trm_up (by omega) hum) hmk ?_ ?_ _ fgt
        · rw [hp_old hl0, hg0, trRow_is]
        · rw [hp_old hl1, hg1, trRow_is]
      | false =>
        rw [hf, if_neg Bool.false_ne_true] at hmk
        generalize (findT u (joinPs (ns.take (i + 1)))).getD tr0 = fu at *
        refine stp (And.intro hg0 e3) ?_
        refine ⟨_, Join_a q1 q2 ⟨rfl, rfl⟩, ?_⟩
        refine stp hat ?_
        rw [← hVu]
        refine Add_m (by omega) hum (by omega) (by omega) (fun t' ht' => ?_)
        have htm : TrM (n + (i + 1)) t' := trm_of _ t' (Nat.le_refl _) (by rw [ht']; exact trm_strip (changedS_m (n := n + i) (addF_m (by omega)) (trm_strip hum)))
        generalize changedS (addF (ns.getD i [])) (joinPs (ns.take i)) u.strip = r at *
        have hVt := Tr.V_is t'
        by_cases he : r.2 = 0
        · rw [if_pos he, ← ht'] at hmk
          refine stp (And.intro he (And.intro hVt hg0)) ?_
          rw [← hp_nil (H := hp (G.set _ _) _)]
          refine hJ2 _ t' (past_hp (past_set hG (by omega) _) _) htm hmk ?_ ?_ _ fgt
          · rw [hp_old (by rw [set_next]; omega), set_got (by omega), trRow_is]
          · rw [hp_old (by rw [set_next]; omega), set_other (by omega), hg1, trRow_is]
        · rw [if_neg he] at hmk
          rw [← hmk] at h
          have hx := h tr0 rfl
          rw [tr0_V] at hx
          refine stp (And.intro he (And.intro hVt hg1)) ?_
          exact aret_past (past_hp (past_set hG (by omega) _) _) hs (by simp only [u_top, u_bool, u_int, u_str, u_nilp, u_nils, u_nilf, u_nilm, u_nili, u_emp, u_byteV, u_ptr, u_wr, u_wc, u_agg, u_tup, u_rd, u_imm, u_func, u_nil, u_cons, u_app, uc_nil, uc_cons, uc_app, u_bytes, uc_bytes, u_ints, uc_ints, cells_bool, cells_int, cells_str, cells_agg, cells_ptr, cells_nils, cells_imm, cells_wr, cells_wc, cells_nilp, cells_nilf, cells_nilm, cells_rd, cells_emp, cells_byteV, cells_func, and_self, and_true, true_and, u_slA, uc_strs, cells_slA, strV_is]) hx
    · have hie : i = ns.length := by omega
      subst hie
      rw [Nat.sub_self, makeL] at hmk
      rw [← hmk] at h
      refine stp hg0 ?_
      rw [← hVu, hp_nil]
      refine Copy_a _ u (Nat.le_refl _) (trm_b (by omega) hum) _ _ (fun cs G2 F hm hnd hge hP hw => ?_)
      obtain ⟨G3, t3, hSh, hst, hn3, ho3⟩ := mt_freeze hm hnd
      have hg1b : G2.get (H.next + 1) = some (.row 25 0 [.str (B []), .nils, .nils]) := (hP.get _ hl1).trans hg1
      have hres2 : G3.get (H.next + 1) = some (.row 25 0 [.str (B []), .nils, .nils]) := (ho3 _ (fun q => by have := hge _ q; omega)).trans hg1b
      have hPG : Past H G3 := by
        refine past_trans hG ⟨by have := hP.next; omega, fun x hx => ?_⟩
        exact (ho3 x (fun q => by have := hge _ q; omega)).trans (hP.get x hx)
      rw [← hp_nil (H := G2)]
      refine stp0 ?_
      rw [hp_nil]
      refine acalls_shut (pre := []) hSh ?_
      have hot : TrOk t3 := trok_of_strip _ t3 (Nat.le_refl _) (by rw [hst]; exact trm_ok (by omega) (trm_strip hum))
      refine fits_a hot ?_
      have hff : fitsE u.strip = fitsE t3 := by rw [← hst, fitsE_strip]
      have hx := h (if fitsE t3 = 0 then t3 else tr0) (by
        rw [hff]
        by_cases hz : fitsE t3 = 0
        · rw [if_pos hz]
          rw [if_pos hz, ← hst, strip_strip _ t3 (Nat.le_refl _)]
        · rw [if_neg hz]
          rw [if_neg hz])
      simp only [hff] at hx
      generalize (if fitsE t3 = 0 then t3 else tr0) = tt at *
      have hVt := Tr.V_is tt
      have hVu2 := Tr.V_u H.next tt
      have hlr2 := G3.lt hres2
      rw [hVt] at hx hVu2
      rw [← hp_nil (H := G3)]
      refine stp (And.intro hVt hres2) ?_
      refine aret_past (past_hp (past_set hPG (by omega) _) []) hs ?_ hx
      simp only [u_tup, u_cons, u_nil, u_int, and_true]
      exact hVu2
end
section
variable {H : AHeap} {K : AV → AHeap → Prop}
end
section
variable {H : AHeap} {K : AV → AHeap → Prop}
end
section
variable {H : AHeap} {K : AV → AHeap → Prop}
end
section
end
/-- A change does not look at what empty slices are. -/
def StripOk (f : Tr → Tr × Int) : Prop := ∀ t : Tr, (f t.strip).2 = (f t).2 ∧ (f t.strip).1.strip = (f t).1.strip
theorem strip2 (t : Tr) : t.strip.strip = t.strip := strip_strip _ t (Nat.le_refl _)
theorem strips2 (ks : List Tr) : (ks.map Tr.strip).map Tr.strip = ks.map Tr.strip := by
  rw [List.map_map]
  exact List.map_congr_left (fun k _ => strip2 k)
theorem setF_s (nm v : List UInt8) : StripOk (setF nm v) := fun t => by
  unfold setF
  split
  · refine ⟨rfl, ?_⟩
    rw [Tr.strip_is, Tr.strip_is, Tr.strip_name, Tr.strip_props, Tr.strip_kids, strips2]
  · exact ⟨rfl, strip2 t⟩
theorem unsetF_s (nm : List UInt8) : StripOk (unsetF nm) := fun t => by
  unfold unsetF
  rw [Tr.strip_props]
  split
  · refine ⟨rfl, ?_⟩
    rw [Tr.strip_is, Tr.strip_is, Tr.strip_name, Tr.strip_kids, strips2]
  · exact ⟨rfl, strip2 t⟩
theorem hasK_s (nm : List UInt8) (ks : List Tr) : hasK nm (ks.map Tr.strip) = hasK nm ks := by
  unfold hasK
  rw [List.any_map]
  congr 1
  funext k
  show decide (k.strip.name = nm) = _
  rw [Tr.strip_name]
theorem addF_s (nm : List UInt8) : StripOk (addF nm) := fun t => by
  unfold addF
  rw [Tr.strip_kids, hasK_s]
  split
  · split
    · exact ⟨rfl, strip2 t⟩
    · refine ⟨rfl, ?_⟩
      rw [Tr.strip_is, Tr.strip_is, Tr.strip_name, Tr.strip_props, List.map_append, List.map_append, strips2]
  · exact ⟨rfl, strip2 t⟩
theorem cutF_map {α β : Type} (p : α → Bool) (q : β → Bool) (g : α → β) (h : ∀ x, q (g x) = p x) : ∀ l : List α, cutF q (l.map g) = (cutF p l).map (List.map g)
  | [] => rfl
  | x :: l => by
    rw [List.map_cons, cutF, cutF, h, cutF_map p q g h l]
    split
    · rfl
    · rw [Option.map_map, Option.map_map]
      rfl
theorem dropF_s (nm : List UInt8) : StripOk (dropF nm) := fun t => by
  unfold dropF
  rw [Tr.strip_kids, cutF_map (fun k : Tr => decide (k.name = nm)) (fun k : Tr => decide (k.name = nm)) Tr.strip (fun k => by rw [Tr.strip_name])]
  cases cutF (fun k : Tr => decide (k.name = nm)) t.kids with
  | none => exact ⟨rfl, strip2 t⟩
  | some ks =>
    refine ⟨rfl, ?_⟩
    show (Tr.mk t.strip.name 0 t.strip.props 0 (ks.map Tr.strip)).strip = _
    rw [Tr.strip_is, Tr.strip_is, Tr.strip_name, Tr.strip_props, strips2]
theorem repl_s {nm : List UInt8} {f : Tr → Tr × Int} (hf : StripOk f) : ∀ ks : List Tr, (repl nm f (ks.map Tr.strip)).map (fun r => (r.1.map Tr.strip, r.2)) = (repl nm f ks).map (fun r => (r.1.map Tr.strip, r.2))
  | [] => rfl
  | k :: ks => by
    rw [List.map_cons, repl, repl, Tr.strip_name]
    obtain ⟨h1, h2⟩ := hf k
    split
    · show some ((f k.strip).1.strip :: (ks.map Tr.strip).map Tr.strip, (f k.strip).2) = some ((f k).1.strip :: ks.map Tr.strip, (f k).2)
      rw [h1, h2, strips2]
    · have ih := repl_s (nm := nm) hf ks
      rw [Option.map_map, Option.map_map]
      cases h3 : repl nm f (ks.map Tr.strip) with
      | none =>
        rw [h3] at ih
        cases h4 : repl nm f ks with
        | none => rfl
        | some r => rw [h4] at ih; cases ih
      | some r =>
        rw [h3] at ih
        cases h4 : repl nm f ks with
        | none => rw [h4] at ih; cases ih
        | some r2 =>
          rw [h4] at ih
          have ih : (r.1.map Tr.strip, r.2) = (r2.1.map Tr.strip, r2.2) := Option.some.inj ih
          have i1 : r.1.map Tr.strip = r2.1.map Tr.strip := (Prod.mk.inj ih).1
          have i2 : r.2 = r2.2 := (Prod.mk.inj ih).2
          show some (k.strip.strip :: r.1.map Tr.strip, r.2) = some (k.strip :: r2.1.map Tr.strip, r2.2)
          rw [i1, i2, strip2]
theorem downS_s {f : Tr → Tr × Int} (hf : StripOk f) : ∀ ns : List (List UInt8), StripOk (downS f ns)
  | [] => fun t => hf t
  | nm :: ns => fun t => by
    have ih := repl_s (nm := nm) (downS_s hf ns) t.kids
    rw [downS, downS, Tr.strip_kids]
    cases h3 : repl nm (downS f ns) (t.kids.map Tr.strip) with
    | none =>
      rw [h3] at ih
      cases h4 : repl nm (downS f ns) t.kids with
      | none => exact ⟨rfl, strip2 t⟩
      | some r => rw [h4] at ih; cases ih
    | some r =>
      rw [h3] at ih
      cases h4 : repl nm (downS f ns) t.kids with
      | none => rw [h4] at ih; cases ih
      | some r2 =>
        rw [h4] at ih
        have ih : (r.1.map Tr.strip, r.2) = (r2.1.map Tr.strip, r2.2) := Option.some.inj ih
        have i1 : r.1.map Tr.strip = r2.1.map Tr.strip := (Prod.mk.inj ih).1
        have i2 : r.2 = r2.2 := (Prod.mk.inj ih).2
        refine ⟨i2, ?_⟩
        show (Tr.mk t.strip.name 0 t.strip.props 0 r.1).strip = (Tr.mk t.name 0 t.props 0 r2.1).strip
        rw [Tr.strip_is, Tr.strip_is, Tr.strip_name, Tr.strip_props, i1]
theorem fitsE_same {t u : Tr} (h : t.strip = u.strip) : fitsE t = fitsE u := by rw [← fitsE_strip t, h, fitsE_strip]
theorem changedS_s {f : Tr → Tr × Int} (hf : StripOk f) (p : List UInt8) : StripOk (changedS f p) := fun t => by
  unfold changedS
  cases partsP p with
  | none => exact ⟨rfl, rfl⟩
  | some ns =>
    obtain ⟨h1, h2⟩ := downS_s hf ns t
    simp only [h1, fitsE_same h2]
    split
    · refine ⟨rfl, ?_⟩
      show (if _ then _ else _ : Tr).strip = (if _ then _ else _ : Tr).strip
      split
      · exact h2
      · rfl
    · exact ⟨rfl, rfl⟩
section
variable {H : AHeap} {K : AV → AHeap → Prop}
end
section
variable {H : AHeap} {K : AV → AHeap → Prop}
end
def c7 : ACode := 
    (.seq 
    (.region [⟨(some 0), (.q (.move (.const (.bool false)))), none⟩]) 
    (.seq 
    (.region [⟨(some 12), (.q (.build [(.str (B [])), .nils, .nils] [])), none⟩, ⟨(some 13), (.s (.call 21 [(.tmp 12), (.const (.str (B [47, 97, 47, 98])))])), none⟩, ⟨(some 11), (.q (.move (.tmp 13))), none⟩, ⟨(some 14), (.q (.extract 0 (.tmp 11))), none⟩, ⟨(some 15), (.q (.extract 1 (.tmp 11))), none⟩, ⟨(some 1), (.s (.alloc 25 [(.str (B [])), .nils, .nils])), none⟩, ⟨none, (.s (.store 3 (.tmp 1) (.tmp 14))), none⟩, ⟨(some 2), (.q (.move (.tmp 15))), none⟩]) 
    (.seq 
    (.region [⟨(some 17), (.q (.load true 3 (.tmp 1))), none⟩, ⟨(some 18), (.s (.call 14 [(.tmp 17), (.const (.str (B [47, 97, 47, 98]))), (.const (.str (B [120]))), (.const (.str (B [49])))])), none⟩, ⟨(some 16), (.q (.move (.tmp 18))), none⟩, ⟨(some 19), (.q (.extract 0 (.tmp 16))), none⟩, ⟨(some 20), (.q (.extract 1 (.tmp 16))), none⟩, ⟨(some 3), (.s (.alloc 25 [(.str (B [])), .nils, .nils])), none⟩, ⟨none, (.s (.store 3 (.tmp 3) (.tmp 19))), none⟩, ⟨(some 4), (.q (.move (.tmp 20))), none⟩]) 
    (.seq 
    (.region [⟨(some 22), (.q (.load true 3 (.tmp 3))), none⟩, ⟨(some 23), (.s (.call 13 [(.tmp 22), (.const (.str (B [47, 97, 47, 98])))])), none⟩, ⟨(some 21), (.q (.move (.tmp 23))), none⟩, ⟨(some 24), (.q (.extract 0 (.tmp 21))), none⟩, ⟨(some 25), (.q (.extract 1 (.tmp 21))), none⟩, ⟨(some 5), (.s (.alloc 25 [(.str (B [])), .nils, .nils])), none⟩, ⟨none, (.s (.store 3 (.tmp 5) (.tmp 24))), none⟩, ⟨(some 6), (.q (.move (.tmp 25))), none⟩]) 
    (.seq 
    (.region [⟨(some 27), (.q (.load true 3 (.tmp 3))), none⟩, ⟨(some 28), (.s (.call 18 [(.tmp 27), (.const (.str (B [47, 97])))])), none⟩, ⟨(some 26), (.q (.move (.tmp 28))), none⟩, ⟨(some 29), (.q (.extract 0 (.tmp 26))), none⟩, ⟨(some 30), (.q (.extract 1 (.tmp 26))), none⟩, ⟨(some 7), (.s (.alloc 25 [(.str (B [])), .nils, .nils])), none⟩, ⟨none, (.s (.store 3 (.tmp 7) (.tmp 29))), none⟩, ⟨(some 8), (.q (.move (.tmp 30))), none⟩]) 
    (.seq 
    (.region [⟨(some 32), (.q (.load true 3 (.tmp 1))), none⟩, ⟨(some 33), (.s (.call 17 [(.tmp 32), (.const (.str (B [47, 97]))), (.const (.str (B [98])))])), none⟩, ⟨(some 31), (.q (.move (.tmp 33))), none⟩, ⟨(some 34), (.q (.extract 0 (.tmp 31))), none⟩, ⟨(some 35), (.q (.extract 1 (.tmp 31))), none⟩, ⟨(some 9), (.s (.alloc 25 [(.str (B [])), .nils, .nils])), none⟩, ⟨none, (.s (.store 3 (.tmp 9) (.tmp 34))), none⟩, ⟨(some 10), (.q (.move (.tmp 35))), none⟩]) 
    (.seq 
    (.region [⟨(some 36), (.q (.move (.tmp 2))), none⟩, ⟨(some 37), (.q (.bin .eql (.tmp 36) (.const (.int .i64 0)))), none⟩, ⟨(some 38), (.q (.move (.tmp 37))), none⟩, ⟨(some 39), (.q (.move (.tmp 4))), (some (38, true))⟩, ⟨(some 40), (.q (.bin .eql (.tmp 39) (.const (.int .i64 0)))), (some (38, true))⟩, ⟨(some 41), (.q (.pick (.tmp 38) (.tmp 40) (.const (.bool false)))), none⟩, ⟨(some 42), (.q (.move (.tmp 41))), none⟩, ⟨(some 43), (.q (.move (.tmp 6))), (some (42, true))⟩, ⟨(some 44), (.q (.pick (.tmp 42) (.tmp 43) (.const (.bool false)))), none⟩, ⟨(some 45), (.q (.move (.tmp 44))), none⟩, ⟨(some 46), (.q (.fieldAddr 1 (.tmp 5))), (some (45, true))⟩, ⟨(some 47), (.q (.load false 1 (.tmp 46))), (some (45, true))⟩, ⟨(some 48), (.q (.len false (.tmp 47))), (some (45, true))⟩, ⟨(some 49), (.q (.bin .eql (.tmp 48) (.const (.int .i64 1)))), (some (45, true))⟩, ⟨(some 50), (.q (.pick (.tmp 45) (.tmp 49) (.const (.bool false)))), none⟩, ⟨(some 51), (.q (.move (.tmp 50))), none⟩, ⟨(some 52), (.q (.move (.tmp 8))), (some (51, true))⟩, ⟨(some 53), (.q (.bin .eql (.tmp 52) (.const (.int .i64 0)))), (some (51, true))⟩, ⟨(some 54), (.q (.pick (.tmp 51) (.tmp 53) (.const (.bool false)))), none⟩, ⟨(some 55), (.q (.move (.tmp 54))), none⟩, ⟨(some 56), (.q (.fieldAddr 2 (.tmp 7))), (some (55, true))⟩, ⟨(some 57), (.q (.load false 1 (.tmp 56))), (some (55, true))⟩, ⟨(some 58), (.q (.len false (.tmp 57))), (some (55, true))⟩, ⟨(some 59), (.q (.bin .eql (.tmp 58) (.const (.int .i64 0)))), (some (55, true))⟩, ⟨(some 60), (.q (.pick (.tmp 55) (.tmp 59) (.const (.bool false)))), none⟩, ⟨(some 61), (.q (.move (.tmp 60))), none⟩, ⟨(some 62), (.q (.move (.tmp 10))), (some (61, true))⟩, ⟨(some 63), (.q (.bin .eql (.tmp 62) (.const (.int .i64 12)))), (some (61, true))⟩, ⟨(some 64), (.q (.pick (.tmp 61) (.tmp 63) (.const (.bool false)))), none⟩, ⟨(some 0), (.q (.move (.tmp 64))), none⟩]) .ret)))))))
theorem t7 : Told Tryd.prog 7 65 c7 [(.tmp 0)] := ⟨Tryd.f7, _, [], Tryd.func7, rfl, by kernel_rfl, rfl, by kernel_rfl, by kernel_rfl⟩
def c4 : ACode := 
    (.seq 
    (.region [⟨(some 2), (.s (.box 25 (.tmp 0))), none⟩, ⟨(some 3), (.s (.box 39 (.tmp 1))), none⟩, ⟨(some 4), (.q (.move (.const (.bool false)))), none⟩]) 
    (.seq 
    (.region [⟨(some 27), (.q (.idxPt 1 3 (.tmp 3) (.const (.int .i64 0)))), none⟩, ⟨(some 28), (.q (.load false 1 (.tmp 27))), none⟩, ⟨(some 29), (.q (.idxPt 1 3 (.tmp 3) (.const (.int .i64 1)))), none⟩, ⟨(some 30), (.q (.load false 1 (.tmp 29))), none⟩, ⟨(some 31), (.q (.idxPt 1 3 (.tmp 3) (.const (.int .i64 2)))), none⟩, ⟨(some 32), (.q (.load false 1 (.tmp 31))), none⟩, ⟨(some 5), (.q (.move (.tmp 28))), none⟩, ⟨(some 6), (.q (.move (.tmp 30))), none⟩, ⟨(some 7), (.q (.move (.tmp 32))), none⟩]) 
    (.seq 
    (.seq 
    (.region [⟨(some 33), (.q (.load true 3 (.tmp 2))), none⟩, ⟨(some 34), (.s (.call 5 [(.tmp 33)])), none⟩, ⟨(some 35), (.q (.un .not (.tmp 34))), none⟩, ⟨(some 36), (.q (.move (.tmp 35))), none⟩, ⟨(some 37), (.q (.load true 3 (.tmp 2))), (some (36, false))⟩, ⟨(some 38), (.s (.call 12 [(.tmp 37)])), (some (36, false))⟩, ⟨(some 39), (.q (.un .not (.tmp 38))), (some (36, false))⟩, ⟨(some 40), (.q (.pick (.tmp 36) (.const (.bool true)) (.tmp 39))), none⟩, ⟨(some 41), (.q (.move (.tmp 40))), none⟩, ⟨(some 42), (.q (.move (.tmp 5))), (some (41, false))⟩, ⟨(some 43), (.q (.len true (.tmp 42))), (some (41, false))⟩, ⟨(some 44), (.q (.bin .gtr (.tmp 43) (.const (.int .i64 200)))), (some (41, false))⟩, ⟨(some 45), (.q (.pick (.tmp 41) (.const (.bool true)) (.tmp 44))), none⟩, ⟨(some 46), (.q (.move (.tmp 45))), none⟩, ⟨(some 47), (.q (.move (.tmp 6))), (some (46, false))⟩, ⟨(some 48), (.q (.len true (.tmp 47))), (some (46, false))⟩, ⟨(some 49), (.q (.bin .gtr (.tmp 48) (.const (.int .i64 100)))), (some (46, false))⟩, ⟨(some 50), (.q (.pick (.tmp 46) (.const (.bool true)) (.tmp 49))), none⟩, ⟨(some 51), (.q (.move (.tmp 50))), none⟩, ⟨(some 52), (.q (.move (.tmp 7))), (some (51, false))⟩, ⟨(some 53), (.q (.len true (.tmp 52))), (some (51, false))⟩, ⟨(some 54), (.q (.bin .gtr (.tmp 53) (.const (.int .i64 300)))), (some (51, false))⟩, ⟨(some 55), (.q (.pick (.tmp 51) (.const (.bool true)) (.tmp 54))), none⟩]) 
    (.cond (.tmp 55) 
    (.seq 
    (.region [⟨(some 56), (.s (.call 7 [])), none⟩, ⟨(some 4), (.q (.move (.tmp 56))), none⟩]) .ret) .skip)) 
    (.seq 
    (.region [⟨(some 58), (.q (.load true 3 (.tmp 2))), none⟩, ⟨(some 59), (.q (.move (.tmp 5))), none⟩, ⟨(some 60), (.s (.call 13 [(.tmp 58), (.tmp 59)])), none⟩, ⟨(some 57), (.q (.move (.tmp 60))), none⟩, ⟨(some 61), (.q (.extract 0 (.tmp 57))), none⟩, ⟨(some 62), (.q (.extract 1 (.tmp 57))), none⟩, ⟨(some 8), (.s (.alloc 25 [(.str (B [])), .nils, .nils])), none⟩, ⟨none, (.s (.store 3 (.tmp 8) (.tmp 61))), none⟩, ⟨(some 9), (.q (.move (.tmp 62))), none⟩]) 
    (.seq 
    (.region [⟨(some 64), (.q (.load true 3 (.tmp 2))), none⟩, ⟨(some 65), (.q (.move (.tmp 5))), none⟩, ⟨(some 66), (.q (.move (.tmp 6))), none⟩, ⟨(some 67), (.q (.move (.tmp 7))), none⟩, ⟨(some 68), (.s (.call 14 [(.tmp 64), (.tmp 65), (.tmp 66), (.tmp 67)])), none⟩, ⟨(some 63), (.q (.move (.tmp 68))), none⟩, ⟨(some 69), (.q (.extract 0 (.tmp 63))), none⟩, ⟨(some 70), (.q (.extract 1 (.tmp 63))), none⟩, ⟨(some 10), (.s (.alloc 25 [(.str (B [])), .nils, .nils])), none⟩, ⟨none, (.s (.store 3 (.tmp 10) (.tmp 69))), none⟩, ⟨(some 11), (.q (.move (.tmp 70))), none⟩]) 
    (.seq 
    (.seq 
    (.region [⟨(some 71), (.q (.move (.tmp 11))), none⟩, ⟨(some 72), (.q (.bin .eql (.tmp 71) (.const (.int .i64 0)))), none⟩]) 
    (.cond (.tmp 72) 
    (.seq 
    (.region [⟨(some 74), (.q (.load true 3 (.tmp 10))), none⟩, ⟨(some 75), (.q (.move (.tmp 5))), none⟩, ⟨(some 76), (.s (.call 13 [(.tmp 74), (.tmp 75)])), none⟩, ⟨(some 73), (.q (.move (.tmp 76))), none⟩, ⟨(some 77), (.q (.extract 0 (.tmp 73))), none⟩, ⟨(some 78), (.q (.extract 1 (.tmp 73))), none⟩, ⟨(some 12), (.s (.alloc 25 [(.str (B [])), .nils, .nils])), none⟩, ⟨none, (.s (.store 3 (.tmp 12) (.tmp 77))), none⟩, ⟨(some 13), (.q (.move (.tmp 78))), none⟩]) 
    (.seq 
    (.region [⟨(some 80), (.q (.load true 3 (.tmp 12))), none⟩, ⟨(some 81), (.q (.move (.tmp 6))), none⟩, ⟨(some 82), (.s (.call 15 [(.tmp 80), (.tmp 81)])), none⟩, ⟨(some 79), (.q (.move (.tmp 82))), none⟩, ⟨(some 83), (.q (.extract 0 (.tmp 79))), none⟩, ⟨(some 84), (.q (.extract 1 (.tmp 79))), none⟩, ⟨(some 14), (.q (.move (.tmp 83))), none⟩, ⟨(some 15), (.q (.move (.tmp 84))), none⟩]) 
    (.seq 
    (.region [⟨(some 86), (.q (.load true 3 (.tmp 8))), none⟩, ⟨(some 87), (.q (.move (.tmp 6))), none⟩, ⟨(some 88), (.s (.call 15 [(.tmp 86), (.tmp 87)])), none⟩, ⟨(some 85), (.q (.move (.tmp 88))), none⟩, ⟨(some 89), (.q (.extract 0 (.tmp 85))), none⟩, ⟨(some 90), (.q (.extract 1 (.tmp 85))), none⟩, ⟨(some 16), (.q (.move (.tmp 89))), none⟩, ⟨(some 17), (.q (.move (.tmp 90))), none⟩]) 
    (.seq 
    (.region [⟨(some 92), (.q (.load true 3 (.tmp 10))), none⟩, ⟨(some 93), (.q (.move (.tmp 5))), none⟩, ⟨(some 94), (.q (.move (.tmp 6))), none⟩, ⟨(some 95), (.s (.call 16 [(.tmp 92), (.tmp 93), (.tmp 94)])), none⟩, ⟨(some 91), (.q (.move (.tmp 95))), none⟩, ⟨(some 96), (.q (.extract 0 (.tmp 91))), none⟩, ⟨(some 97), (.q (.extract 1 (.tmp 91))), none⟩, ⟨(some 18), (.s (.alloc 25 [(.str (B [])), .nils, .nils])), none⟩, ⟨none, (.s (.store 3 (.tmp 18) (.tmp 96))), none⟩, ⟨(some 19), (.q (.move (.tmp 97))), none⟩]) 
    (.seq 
    (.region [⟨(some 98), (.q (.move (.tmp 9))), none⟩, ⟨(some 99), (.q (.un .not (.tmp 98))), none⟩, ⟨(some 100), (.q (.move (.tmp 99))), none⟩, ⟨(some 101), (.q (.move (.tmp 13))), (some (100, false))⟩, ⟨(some 102), (.q (.un .not (.tmp 101))), (some (100, false))⟩, ⟨(some 103), (.q (.pick (.tmp 100) (.const (.bool true)) (.tmp 102))), none⟩, ⟨(some 104), (.q (.move (.tmp 103))), none⟩, ⟨(some 105), (.q (.move (.tmp 15))), (some (104, false))⟩, ⟨(some 106), (.q (.un .not (.tmp 105))), (some (104, false))⟩, ⟨(some 107), (.q (.pick (.tmp 104) (.const (.bool true)) (.tmp 106))), none⟩, ⟨(some 108), (.q (.move (.tmp 107))), none⟩, ⟨(some 109), (.q (.move (.tmp 14))), (some (108, false))⟩, ⟨(some 110), (.q (.move (.tmp 7))), (some (108, false))⟩, ⟨(some 111), (.q (.bin .neq (.tmp 109) (.tmp 110))), (some (108, false))⟩, ⟨(some 112), (.q (.pick (.tmp 108) (.const (.bool true)) (.tmp 111))), none⟩, ⟨(some 113), (.q (.move (.tmp 112))), none⟩, ⟨(some 114), (.q (.fieldAddr 2 (.tmp 10))), (some (113, false))⟩, ⟨(some 115), (.q (.load false 1 (.tmp 114))), (some (113, false))⟩, ⟨(some 116), (.q (.len false (.tmp 115))), (some (113, false))⟩, ⟨(some 117), (.q (.fieldAddr 2 (.tmp 2))), (some (113, false))⟩, ⟨(some 118), (.q (.load false 1 (.tmp 117))), (some (113, false))⟩, ⟨(some 119), (.q (.len false (.tmp 118))), (some (113, false))⟩, ⟨(some 120), (.q (.bin .neq (.tmp 116) (.tmp 119))), (some (113, false))⟩, ⟨(some 121), (.q (.pick (.tmp 113) (.const (.bool true)) (.tmp 120))), none⟩, ⟨(some 122), (.q (.move (.tmp 121))), none⟩, ⟨(some 123), (.q (.move (.tmp 19))), (some (122, false))⟩, ⟨(some 124), (.q (.bin .neq (.tmp 123) (.const (.int .i64 0)))), (some (122, false))⟩, ⟨(some 125), (.q (.pick (.tmp 122) (.const (.bool true)) (.tmp 124))), none⟩, ⟨(some 126), (.q (.move (.tmp 125))), none⟩, ⟨(some 127), (.q (.move (.tmp 17))), (some (126, false))⟩, ⟨(some 128), (.q (.un .not (.tmp 127))), (some (126, false))⟩, ⟨(some 129), (.q (.move (.tmp 128))), (some (126, false))⟩, ⟨(some 130), (.q (.load true 3 (.tmp 18))), (some (129, true))⟩, ⟨(some 131), (.q (.load true 3 (.tmp 2))), (some (129, true))⟩, ⟨(some 132), (.s (.call 11 [(.tmp 130), (.tmp 131)])), (some (129, true))⟩, ⟨(some 133), (.q (.un .not (.tmp 132))), (some (129, true))⟩, ⟨(some 134), (.q (.pick (.tmp 129) (.tmp 133) (.const (.bool false)))), (some (126, false))⟩, ⟨(some 135), (.q (.pick (.tmp 126) (.const (.bool true)) (.tmp 134))), none⟩]) 
    (.cond (.tmp 135) 
    (.seq 
    (.region [⟨(some 4), (.q (.move (.const (.bool false)))), none⟩]) .ret) .skip)))))) .skip)) 
    (.seq 
    (.region [⟨(some 137), (.q (.load true 3 (.tmp 2))), none⟩, ⟨(some 138), (.q (.move (.tmp 5))), none⟩, ⟨(some 139), (.q (.move (.tmp 6))), none⟩, ⟨(some 140), (.s (.call 17 [(.tmp 137), (.tmp 138), (.tmp 139)])), none⟩, ⟨(some 136), (.q (.move (.tmp 140))), none⟩, ⟨(some 141), (.q (.extract 0 (.tmp 136))), none⟩, ⟨(some 142), (.q (.extract 1 (.tmp 136))), none⟩, ⟨(some 20), (.s (.alloc 25 [(.str (B [])), .nils, .nils])), none⟩, ⟨none, (.s (.store 3 (.tmp 20) (.tmp 141))), none⟩, ⟨(some 21), (.q (.move (.tmp 142))), none⟩]) 
    (.seq 
    (.seq 
    (.region [⟨(some 143), (.q (.move (.tmp 21))), none⟩, ⟨(some 144), (.q (.bin .neq (.tmp 143) (.const (.int .i64 0)))), none⟩]) 
    (.cond (.tmp 144) 
    (.seq 
    (.region [⟨(some 145), (.q (.move (.tmp 11))), none⟩, ⟨(some 146), (.q (.bin .neq (.tmp 145) (.const (.int .i64 8)))), none⟩, ⟨(some 147), (.q (.move (.tmp 146))), none⟩, ⟨(some 148), (.q (.move (.tmp 9))), (some (147, false))⟩, ⟨(some 149), (.q (.un .not (.tmp 148))), (some (147, false))⟩, ⟨(some 150), (.q (.pick (.tmp 147) (.const (.bool true)) (.tmp 149))), none⟩, ⟨(some 151), (.q (.move (.tmp 150))), none⟩, ⟨(some 152), (.s (.call 7 [])), (some (151, true))⟩, ⟨(some 153), (.q (.pick (.tmp 151) (.tmp 152) (.const (.bool false)))), none⟩, ⟨(some 4), (.q (.move (.tmp 153))), none⟩]) .ret) .skip)) 
    (.seq 
    (.region [⟨(some 154), (.q (.move (.tmp 5))), none⟩, ⟨(some 155), (.q (.bin .add (.tmp 154) (.const (.str (B [47]))))), none⟩, ⟨(some 156), (.q (.move (.tmp 6))), none⟩, ⟨(some 157), (.q (.bin .add (.tmp 155) (.tmp 156))), none⟩, ⟨(some 22), (.q (.move (.tmp 157))), none⟩]) 
    (.seq 
    (.seq 
    (.region [⟨(some 158), (.q (.move (.tmp 5))), none⟩, ⟨(some 159), (.q (.bin .eql (.tmp 158) (.const (.str (B [47]))))), none⟩]) 
    (.cond (.tmp 159) 
    (.region [⟨(some 160), (.q (.move (.tmp 5))), none⟩, ⟨(some 161), (.q (.move (.tmp 6))), none⟩, ⟨(some 162), (.q (.bin .add (.tmp 160) (.tmp 161))), none⟩, ⟨(some 22), (.q (.move (.tmp 162))), none⟩]) .skip)) 
    (.seq 
    (.region [⟨(some 164), (.q (.load true 3 (.tmp 20))), none⟩, ⟨(some 165), (.q (.move (.tmp 22))), none⟩, ⟨(some 166), (.s (.call 13 [(.tmp 164), (.tmp 165)])), none⟩, ⟨(some 163), (.q (.move (.tmp 166))), none⟩, ⟨(some 167), (.q (.extract 0 (.tmp 163))), none⟩, ⟨(some 168), (.q (.extract 1 (.tmp 163))), none⟩, ⟨(some 23), (.s (.alloc 25 [(.str (B [])), .nils, .nils])), none⟩, ⟨none, (.s (.store 3 (.tmp 23) (.tmp 167))), none⟩, ⟨(some 24), (.q (.move (.tmp 168))), none⟩]) 
    (.seq 
    (.region [⟨(some 170), (.q (.load true 3 (.tmp 20))), none⟩, ⟨(some 171), (.q (.move (.tmp 22))), none⟩, ⟨(some 172), (.s (.call 18 [(.tmp 170), (.tmp 171)])), none⟩, ⟨(some 169), (.q (.move (.tmp 172))), none⟩, ⟨(some 173), (.q (.extract 0 (.tmp 169))), none⟩, ⟨(some 174), (.q (.extract 1 (.tmp 169))), none⟩, ⟨(some 25), (.s (.alloc 25 [(.str (B [])), .nils, .nils])), none⟩, ⟨none, (.s (.store 3 (.tmp 25) (.tmp 173))), none⟩, ⟨(some 26), (.q (.move (.tmp 174))), none⟩]) 
    (.seq 
    (.region [⟨(some 175), (.q (.move (.tmp 24))), none⟩, ⟨(some 176), (.q (.move (.tmp 175))), none⟩, ⟨(some 177), (.q (.move (.tmp 26))), (some (176, true))⟩, ⟨(some 178), (.q (.bin .eql (.tmp 177) (.const (.int .i64 0)))), (some (176, true))⟩, ⟨(some 179), (.q (.pick (.tmp 176) (.tmp 178) (.const (.bool false)))), none⟩, ⟨(some 180), (.q (.move (.tmp 179))), none⟩, ⟨(some 181), (.q (.load true 3 (.tmp 25))), (some (180, true))⟩, ⟨(some 182), (.q (.load true 3 (.tmp 2))), (some (180, true))⟩, ⟨(some 183), (.s (.call 11 [(.tmp 181), (.tmp 182)])), (some (180, true))⟩, ⟨(some 184), (.q (.pick (.tmp 180) (.tmp 183) (.const (.bool false)))), none⟩, ⟨(some 185), (.q (.move (.tmp 184))), none⟩, ⟨(some 186), (.s (.call 7 [])), (some (185, true))⟩, ⟨(some 187), (.q (.pick (.tmp 185) (.tmp 186) (.const (.bool false)))), none⟩, ⟨(some 4), (.q (.move (.tmp 187))), none⟩]) .ret)))))))))))))
theorem t4 : Told Tryd.prog 4 188 c4 [(.tmp 4)] := ⟨Tryd.f4, _, [], Tryd.func4, rfl, by kernel_rfl, rfl, by kernel_rfl, by kernel_rfl⟩
structure Tk where
  kind : Int
  name : List UInt8
  value : List UInt8
def Tk.V (k : Tk) : AV := .agg [.int .i64 k.kind, .str (B k.name), .str (B k.value)]
section
variable {H : AHeap} {K : AV → AHeap → Prop}
end
theorem repl_split {nm : List UInt8} {f : Tr → Tr × Int} : ∀ {ks : List Tr} {r : List Tr × Int}, repl nm f ks = some r → ∃ pre k post, ks = pre ++ k :: post ∧ k.name = nm ∧ (∀ x ∈ pre, ¬ x.name = nm) ∧ r = (pre ++ (f k).1 :: post, (f k).2)
  | [], r, h => by cases h
  | k :: ks, r, h => by
    rw [repl] at h
    by_cases hk : k.name = nm
    · rw [if_pos hk] at h
      obtain rfl := Option.some.inj h
      exact ⟨[], k, ks, rfl, hk, by simp, rfl⟩
    · rw [if_neg hk] at h
      cases hr : repl nm f ks with
      | none => rw [hr] at h; cases h
      | some q =>
        rw [hr] at h
        obtain rfl := Option.some.inj h
        obtain ⟨pre, k2, post, rfl, h2, h3, rfl⟩ := repl_split hr
        refine ⟨k :: pre, k2, post, rfl, h2, fun x hx => ?_, rfl⟩
        rcases List.mem_cons.1 hx with e | e
        · rw [e]; exact hk
        · exact h3 x e
theorem repl_of {nm : List UInt8} {f : Tr → Tr × Int} {k : Tr} {post : List Tr} (hk : k.name = nm) : ∀ {pre : List Tr}, (∀ x ∈ pre, ¬ x.name = nm) → repl nm f (pre ++ k :: post) = some (pre ++ (f k).1 :: post, (f k).2)
  | [], _ => by rw [List.nil_append, repl, if_pos hk]; rfl
  | x :: pre, h => by
    rw [List.cons_append, repl, if_neg (h x List.mem_cons_self), repl_of hk (fun y hy => h y (List.mem_cons_of_mem _ hy))]
    rfl
theorem find_of {nm : List UInt8} {k : Tr} {post : List Tr} (hk : k.name = nm) : ∀ {pre : List Tr}, (∀ x ∈ pre, ¬ x.name = nm) → (pre ++ k :: post).find? (nameIs nm) = some k
  | [], _ => by rw [List.nil_append, List.find?_cons_of_pos (by simp [nameIs, hk])]
  | x :: pre, h => by
    rw [List.cons_append, List.find?_cons_of_neg (by simp [nameIs, h x List.mem_cons_self]), find_of hk (fun y hy => h y (List.mem_cons_of_mem _ hy))]
theorem find_split {nm : List UInt8} : ∀ {ks : List Tr} {k : Tr}, ks.find? (nameIs nm) = some k → ∃ pre post, ks = pre ++ k :: post ∧ k.name = nm ∧ ∀ x ∈ pre, ¬ x.name = nm
  | [], k, h => by cases h
  | x :: ks, k, h => by
    by_cases hx : x.name = nm
    · rw [List.find?_cons_of_pos (by simp [nameIs, hx])] at h
      obtain rfl := Option.some.inj h
      exact ⟨[], ks, rfl, hx, by simp⟩
    · rw [List.find?_cons_of_neg (by simp [nameIs, hx])] at h
      obtain ⟨pre, post, rfl, h1, h2⟩ := find_split h
      refine ⟨x :: pre, post, rfl, h1, fun y hy => ?_⟩
      rcases List.mem_cons.1 hy with e | e
      · rw [e]; exact hx
      · exact h2 y e
theorem repl_no {nm : List UInt8} {f : Tr → Tr × Int} : ∀ {ks : List Tr}, ks.find? (nameIs nm) = none → repl nm f ks = none
  | [], _ => rfl
  | x :: ks, h => by
    by_cases hx : x.name = nm
    · rw [List.find?_cons_of_pos (by simp [nameIs, hx])] at h
      cases h
    · rw [List.find?_cons_of_neg (by simp [nameIs, hx])] at h
      rw [repl, if_neg hx, repl_no h]
      rfl
def NameOk (f : Tr → Tr × Int) : Prop := ∀ t, (f t).1.name = t.name
theorem downS_name {f : Tr → Tr × Int} (hf : NameOk f) : ∀ ns, NameOk (downS f ns)
  | [] => hf
  | nm :: ns => fun t => by
    rw [downS]
    cases repl nm (downS f ns) t.kids with
    | none => rfl
    | some r => rfl
/-- What a change at the node of names says, and leaves there. -/
theorem downS_some {f : Tr → Tr × Int} (hf : NameOk f) : ∀ (ns : List (List UInt8)) (t x : Tr), walkTo t ns = some x → (downS f ns t).2 = (f x).2 ∧ walkTo (downS f ns t).1 ns = some (f x).1
  | [], t, x, h => by
    rw [walkTo] at h
    obtain rfl := Option.some.inj h
    rw [downS]
    exact ⟨rfl, rfl⟩
  | nm :: ns, t, x, h => by
    rw [walkTo] at h
    cases hk : kidT t nm with
    | none => rw [hk] at h; cases h
    | some k =>
      rw [hk] at h
      obtain ⟨pre, post, e1, e2, e3⟩ := find_split hk
      obtain ⟨h1, h2⟩ := downS_some hf ns k x h
      rw [downS, e1, repl_of e2 e3]
      refine ⟨h1, ?_⟩
      rw [walkTo]
      unfold kidT
      show (match (pre ++ (downS f ns k).1 :: post).find? (nameIs nm) with
        | some k => walkTo k ns
        | none => none) = _
      rw [find_of (by rw [downS_name hf ns k]; exact e2) e3]
      exact h2
theorem downS_none {f : Tr → Tr × Int} : ∀ (ns : List (List UInt8)) (t : Tr), walkTo t ns = none → downS f ns t = (t, 8) ∨ (downS f ns t).2 = 8
  | [], t, h => by rw [walkTo] at h; cases h
  | nm :: ns, t, h => by
    rw [walkTo] at h
    rw [downS]
    cases hk : kidT t nm with
    | none =>
      rw [repl_no hk]
      exact .inl rfl
    | some k =>
      rw [hk] at h
      obtain ⟨pre, post, e1, e2, e3⟩ := find_split hk
      rw [e1, repl_of e2 e3]
      rcases downS_none ns k h with q | q
      · rw [q]; exact .inr rfl
      · exact .inr q
theorem downS_8 {f : Tr → Tr × Int} {ns : List (List UInt8)} {t : Tr} (h : walkTo t ns = none) : (downS f ns t).2 = 8 := by
  rcases downS_none (f := f) ns t h with q | q
  · rw [q]
  · exact q
theorem downS_comp {f g : Tr → Tr × Int} (hf : NameOk f) : ∀ (ns : List (List UInt8)) (t x : Tr), walkTo t ns = some x → downS g ns (downS f ns t).1 = downS (fun x => g (f x).1) ns t
  | [], t, x, h => by rw [downS, downS, downS]
  | nm :: ns, t, x, h => by
    rw [walkTo] at h
    cases hk : kidT t nm with
    | none => rw [hk] at h; cases h
    | some k =>
      rw [hk] at h
      obtain ⟨pre, post, e1, e2, e3⟩ := find_split hk
      rw [downS, downS, downS, e1, repl_of e2 e3, repl_of e2 e3]
      show (match repl nm (downS g ns) (pre ++ (downS f ns k).1 :: post) with
        | none => _
        | some r => _) = _
      rw [repl_of (by rw [downS_name hf ns k]; exact e2) e3, downS_comp hf ns k x h]
      rfl
theorem downS_id {h : Tr → Tr × Int} : ∀ (ns : List (List UInt8)) (t x : Tr), walkTo t ns = some x → (h x).2 = 0 → (h x).1.strip = x.strip → (downS h ns t).2 = 0 ∧ (downS h ns t).1.strip = t.strip
  | [], t, x, hw, h1, h2 => by
    rw [walkTo] at hw
    obtain rfl := Option.some.inj hw
    rw [downS]
    exact ⟨h1, h2⟩
  | nm :: ns, t, x, hw, h1, h2 => by
    rw [walkTo] at hw
    cases hk : kidT t nm with
    | none => rw [hk] at hw; cases hw
    | some k =>
      rw [hk] at hw
      obtain ⟨pre, post, e1, e2, e3⟩ := find_split hk
      obtain ⟨i1, i2⟩ := downS_id ns k x hw h1 h2
      rw [downS, e1, repl_of e2 e3]
      refine ⟨i1, ?_⟩
      show (Tr.mk t.name 0 t.props 0 (pre ++ (downS h ns k).1 :: post)).strip = _
      rw [Tr.strip_is, List.map_append, List.map_cons, i2]
      obtain ⟨n, kp, ps, kk, ks⟩ := t
      have e1 : ks = pre ++ k :: post := e1
      rw [Tr.strip_is, e1, List.map_append, List.map_cons]
      rfl
theorem downS_kids {f : Tr → Tr × Int} (hf : ∀ t, (f t).1.kids.length = t.kids.length) : ∀ (ns : List (List UInt8)) (t : Tr), (downS f ns t).1.kids.length = t.kids.length
  | [], t => by rw [downS]; exact hf t
  | nm :: ns, t => by
    rw [downS]
    cases hr : repl nm (downS f ns) t.kids with
    | none => rfl
    | some r =>
      exact (repl_mem hr).1
/-! ### how much there is -/
theorem fold_c (f : Tr → Int × Int × Int) : ∀ (ks : List Tr) (a : Int × Int × Int), ks.foldl (cstep f) a = (ks.foldl (fun x k => wI (x + (f k).1)) a.1, ks.foldl (fun x k => wI (x + (f k).2.1)) a.2.1, ks.foldl (fun x k => mxI x (f k).2.2) a.2.2)
  | [], a => rfl
  | k :: ks, a => by
    rw [List.foldl_cons, fold_c f ks]
    rfl
theorem tc1 (l : Nat) (t : Tr) : (tcount (l + 1) t).1 = t.kids.foldl (fun x k => wI (x + (tcount l k).1)) 1 := by rw [tcount, fold_c]
theorem tc2 (l : Nat) (t : Tr) : (tcount (l + 1) t).2.1 = t.kids.foldl (fun x k => wI (x + (tcount l k).2.1)) (t.props.length : Int) := by rw [tcount, fold_c]
theorem tc3 (l : Nat) (t : Tr) : (tcount (l + 1) t).2.2 = wI (t.kids.foldl (fun x k => mxI x (tcount l k).2.2) 0 + 1) := by rw [tcount, fold_c]
theorem tc_down {h : Tr → Tr × Int} (hk : ∀ x, (h x).1.kids = x.kids) : ∀ (ns : List (List UInt8)) (l : Nat) (t : Tr), (tcount l (downS h ns t).1).1 = (tcount l t).1 ∧ (tcount l (downS h ns t).1).2.2 = (tcount l t).2.2
  | _, 0, t => by rw [tcount, tcount]; exact ⟨rfl, rfl⟩
  | [], l + 1, t => by
    rw [downS, tc1, tc1, tc3, tc3, hk]
    exact ⟨rfl, rfl⟩
  | nm :: ns, l + 1, t => by
    rw [downS]
    cases hr : repl nm (downS h ns) t.kids with
    | none => exact ⟨rfl, rfl⟩
    | some r =>
      obtain ⟨pre, k, post, e1, e2, e3, rfl⟩ := repl_split hr
      obtain ⟨i1, i2⟩ := tc_down hk ns l k
      show (tcount (l + 1) (Tr.mk t.name 0 t.props 0 (pre ++ (downS h ns k).1 :: post))).1 = _ ∧ (tcount (l + 1) (Tr.mk t.name 0 t.props 0 (pre ++ (downS h ns k).1 :: post))).2.2 = _
      rw [tc1, tc1, tc3, tc3, e1]
      show List.foldl _ _ (pre ++ (downS h ns k).1 :: post) = _ ∧ wI (List.foldl _ _ (pre ++ (downS h ns k).1 :: post) + 1) = _
      rw [List.foldl_append, List.foldl_cons, List.foldl_append, List.foldl_cons, List.foldl_append, List.foldl_cons, List.foldl_append, List.foldl_cons, i1, i2]
      exact ⟨rfl, rfl⟩
/-- Properties counted. -/
def nP : Nat → Tr → Nat
  | 0, _ => 0
  | l + 1, t => t.props.length + (t.kids.map (nP l)).sum
theorem wI_id {n : Int} (h1 : 0 ≤ n) (h2 : n ≤ 1000000) : wI n = n := wi64 (by omega) (by omega)
theorem fold_sum (f : Tr → Int) (g : Tr → Nat) : ∀ (ks : List Tr) (a : Nat), (∀ k ∈ ks, g k ≤ 1000000 → f k = (g k : Int)) → a + (ks.map g).sum ≤ 1000000 → ks.foldl (fun x k => wI (x + f k)) (a : Int) = ((a + (ks.map g).sum : Nat) : Int)
  | [], a, _, _ => by simp
  | k :: ks, a, h, hl => by
    rw [List.map_cons, List.sum_cons] at hl
    rw [List.foldl_cons, h k List.mem_cons_self (by omega), wI_id (by omega) (by omega), show (a : Int) + (g k : Int) = ((a + g k : Nat) : Int) by omega, fold_sum f g ks _ (fun x hx => h x (List.mem_cons_of_mem _ hx)) (by omega), List.map_cons, List.sum_cons, Nat.add_assoc]
theorem tc2_n : ∀ (l : Nat) (t : Tr), nP l t ≤ 1000000 → (tcount l t).2.1 = (nP l t : Int)
  | 0, t, _ => rfl
  | l + 1, t, h => by
    rw [nP] at h ⊢
    rw [tc2, fold_sum _ (nP l) t.kids _ (fun k _ hk => tc2_n l k hk) h]
theorem nP_size : ∀ (l m : Nat) (t : Tr), l ≤ m → tsize m t ≤ 400 → nP l t ≤ tsize m t
  | 0, m, t, _, _ => Nat.zero_le _
  | l + 1, 0, t, h, _ => by omega
  | l + 1, m + 1, t, h, hs => by
    rw [tsize] at hs ⊢
    have e := szLoop_sum (tsize m) t.kids (1 + t.props.length) (by omega)
    rw [nP]
    have key : ∀ ks : List Tr, (∀ k ∈ ks, tsize m k ≤ 400) → (ks.map (nP l)).sum ≤ (ks.map (tsize m)).sum := fun ks => by
      induction ks with
      | nil => intro _; simp
      | cons k ks ih =>
        intro hh
        rw [List.map_cons, List.map_cons, List.sum_cons, List.sum_cons]
        have := nP_size l m k (by omega) (hh k List.mem_cons_self)
        have := ih (fun x hx => hh x (List.mem_cons_of_mem _ hx))
        omega
    have := key t.kids (fun k hk => by have := sum_le (f := tsize m) hk; omega)
    omega
theorem nP_down {h : Tr → Tr × Int} (hk : ∀ x, (h x).1.kids = x.kids) (hp : ∀ x, (h x).1.props.length ≤ x.props.length) : ∀ (ns : List (List UInt8)) (l : Nat) (t : Tr), nP l (downS h ns t).1 ≤ nP l t
  | _, 0, t => Nat.le_refl _
  | [], l + 1, t => by
    rw [downS, nP, nP, hk]
    have := hp t
    omega
  | nm :: ns, l + 1, t => by
    rw [downS]
    cases hr : repl nm (downS h ns) t.kids with
    | none => exact Nat.le_refl _
    | some r =>
      obtain ⟨pre, k, post, e1, e2, e3, rfl⟩ := repl_split hr
      have := nP_down hk hp ns l k
      show nP (l + 1) (Tr.mk t.name 0 t.props 0 (pre ++ (downS h ns k).1 :: post)) ≤ _
      rw [nP, nP, e1]
      show t.props.length + ((pre ++ (downS h ns k).1 :: post).map (nP l)).sum ≤ _
      rw [List.map_append, List.map_cons, List.sum_append, List.sum_cons, List.map_append, List.map_cons, List.sum_append, List.sum_cons]
      omega
theorem fits_0 {t : Tr} (h : tFits t = true) : fitsE t = 0 := by
  unfold fitsE
  have h2 := h
  unfold tFits at h2
  simp only [Bool.and_eq_true, decide_eq_true_eq] at h2
  rw [if_pos h2.2, if_pos h]
theorem fits_of {t : Tr} (h : fitsE t = 0) : (tcount 9 t).2.2 ≤ 8 := by
  unfold fitsE at h
  split at h
  · assumption
  · cases h
theorem fits_down {h : Tr → Tr × Int} (hk : ∀ x, (h x).1.kids = x.kids) (hp : ∀ x, (h x).1.props.length ≤ x.props.length) {ns : List (List UInt8)} {t : Tr} (hf : tFits t = true) (hs : tsize 12 t ≤ 400) : fitsE (downS h ns t).1 = 0 := by
  apply fits_0
  unfold tFits at hf ⊢
  simp only [Bool.and_eq_true, decide_eq_true_eq] at hf ⊢
  obtain ⟨e1, e3⟩ := tc_down hk ns 9 t
  have e2 := nP_down hk hp ns 9 t
  have e4 := nP_size 9 12 t (by omega) hs
  have e5 := tc2_n 9 t (by omega)
  have e6 := tc2_n 9 (downS h ns t).1 (by omega)
  rw [e1, e3, e6]
  rw [e5] at hf
  refine ⟨⟨hf.1.1, ?_⟩, hf.2⟩
  have := hf.1.2
  omega
/-! ### how deep it is -/
theorem fold_mx (f : Tr → Int) : ∀ (ks : List Tr) (a : Int), a ≤ ks.foldl (fun x k => mxI x (f k)) a ∧ ∀ k ∈ ks, f k ≤ ks.foldl (fun x k => mxI x (f k)) a
  | [], a => ⟨Int.le_refl _, by simp⟩
  | k :: ks, a => by
    rw [List.foldl_cons]
    obtain ⟨h1, h2⟩ := fold_mx f ks (mxI a (f k))
    have h3 : a ≤ mxI a (f k) ∧ f k ≤ mxI a (f k) := by
      unfold mxI
      split <;> omega
    refine ⟨by omega, fun x hx => ?_⟩
    rcases List.mem_cons.1 hx with e | e
    · rw [e]; omega
    · exact h2 x e
theorem fold_mx_le (f : Tr → Int) (b : Int) : ∀ (ks : List Tr) (a : Int), a ≤ b → (∀ k ∈ ks, f k ≤ b) → ks.foldl (fun x k => mxI x (f k)) a ≤ b
  | [], a, h, _ => h
  | k :: ks, a, h, hk => by
    rw [List.foldl_cons]
    refine fold_mx_le f b ks _ ?_ (fun x hx => hk x (List.mem_cons_of_mem _ hx))
    have := hk k List.mem_cons_self
    unfold mxI
    split <;> omega
theorem tc3_le : ∀ (l : Nat) (t : Tr), l ≤ 1000 → 0 ≤ (tcount l t).2.2 ∧ (tcount l t).2.2 ≤ l
  | 0, t, _ => ⟨Int.le_refl _, Int.le_refl _⟩
  | l + 1, t, h => by
    rw [tc3]
    have h1 := (fold_mx (fun k => (tcount l k).2.2) t.kids 0).1
    have h2 := fold_mx_le (fun k => (tcount l k).2.2) (l : Int) t.kids 0 (by omega) (fun k _ => (tc3_le l k (by omega)).2)
    rw [wI_id (by omega) (by omega)]
    constructor <;> omega
theorem tc3_ge : ∀ (ns : List (List UInt8)) (l : Nat) (t x : Tr), l ≤ 1000 → walkTo t ns = some x → ((min l (ns.length + 1) : Nat) : Int) ≤ (tcount l t).2.2
  | _, 0, t, x, _, _ => by rw [Nat.zero_min]; exact Int.le_refl _
  | [], l + 1, t, x, h, hw => by
    rw [tc3]
    have h1 := (fold_mx (fun k => (tcount l k).2.2) t.kids 0).1
    have h2 := fold_mx_le (fun k => (tcount l k).2.2) (l : Int) t.kids 0 (by omega) (fun k _ => (tc3_le l k (by omega)).2)
    rw [wI_id (by omega) (by omega)]
    simp only [List.length_nil]
    omega
  | nm :: ns, l + 1, t, x, h, hw => by
    rw [walkTo] at hw
    cases hk : kidT t nm with
    | none => rw [hk] at hw; cases hw
    | some k =>
      rw [hk] at hw
      have h0 := tc3_ge ns l k x (by omega) hw
      have hm := List.mem_of_find?_eq_some hk
      have h3 := (fold_mx (fun k => (tcount l k).2.2) t.kids 0).2 k hm
      have h1 := (fold_mx (fun k => (tcount l k).2.2) t.kids 0).1
      have h2 := fold_mx_le (fun k => (tcount l k).2.2) (l : Int) t.kids 0 (by omega) (fun k _ => (tc3_le l k (by omega)).2)
      rw [tc3, wI_id (by omega) (by omega)]
      simp only [List.length_cons]
      have h3 : (tcount l k).2.2 ≤ _ := h3
      omega
theorem deep_le {ns : List (List UInt8)} {t x : Tr} (hf : fitsE t = 0) (hw : walkTo t ns = some x) : ns.length ≤ 7 := by
  have h1 := fits_of hf
  have h2 := tc3_ge ns 9 t x (by omega) hw
  omega
theorem dropS_s (p : List UInt8) : StripOk (dropS p) := fun t => by
  unfold dropS
  cases partsP p with
  | none => exact ⟨rfl, rfl⟩
  | some ns =>
    show (if _ then _ else _ : Tr × Int).2 = (if _ then _ else _ : Tr × Int).2 ∧ (if _ then _ else _ : Tr × Int).1.strip = (if _ then _ else _ : Tr × Int).1.strip
    by_cases h : ns = []
    · rw [if_pos h, if_pos h]
      exact ⟨rfl, rfl⟩
    · rw [if_neg h, if_neg h]
      exact changedS_s (dropF_s _) _ t
/-- What is found in a tree that is alike. -/
theorem find_alike {t u x : Tr} {p : List UInt8} (h : t.strip = u.strip) (hf : findT u p = some x) : ∃ y, findT t p = some y ∧ y.strip = x.strip := by
  have e : (findT t p).map Tr.strip = some x.strip := by rw [← findT_strip, h, findT_strip, hf]; rfl
  cases hy : findT t p with
  | none => rw [hy] at e; cases e
  | some y => rw [hy] at e; exact ⟨y, rfl, Option.some.inj e⟩
end Go.Proofs.YtdknpnmdjjmapaaDoor.AL
