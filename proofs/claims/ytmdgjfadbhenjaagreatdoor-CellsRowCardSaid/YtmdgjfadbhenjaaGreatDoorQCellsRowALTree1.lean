/- Trees told: counting them. -/
import Derived.Test.YtmdgjfadbhenjaaGreatDoorQCellsRowALDPat
import Derived.Test.YtmdgjfadbhenjaaGreatDoorQCellsRowALA4
import Derived.Test.YtmdgjfadbhenjaaGreatDoorQCellsRowALA3
import Derived.Test.YtmdgjfadbhenjaaGreatDoorProg
import Derived.KernelRfl
import Derived.Shelf.Lay
import Derived.Shelf.Strings.OnBuilder
set_option linter.unusedSimpArgs false
set_option linter.unusedVariables false
set_option maxRecDepth 100000
set_option maxHeartbeats 16000000
namespace Go.Proofs.YtmdgjfadbhenjaaGreatDoor.AL
open Go Go.Proofs
attribute [local go_sem] go_seq go_skip go_region go_regionN go_fregion rgF_some go_cond go_block go_exit go_ret nxt_nil nxt_code nxt_blk nxt_cut leave_nil leave_code leave_cut leave_blk rtn_nil rtn_code rtn_blk rtn_cut cnd_t cnd_f rgn_nil rgY_some rgY_none rgH_some rgP_some retTo_is rgV_func grd_und grd_tt grd_ff grd_tf grd_ft rgn_q rgn_alloc rgn_box rgn_store rgn_lit rgn_litw rgn_litc litCells_nil litCells_cons rgn_app rgn_copy rgn_mk rgn_s2b rgn_call rgn_callv rgn_stop rgn_slice3 aslice3 rgn_slice3l aslice3l rgn_appz rgn_clear rgn_range rgn_next arange acap rgn_put rgn_mkmap rgn_lookup rgn_mapup alookup_nilm alookup_map amapup_map afound_ok afound_no rgn_c rgn_cv qclV_func aloadr rgn_guard post_ret post_normal retY_some ares aresL ares1 AX.ev aput List.getD_cons_zero List.getD_cons_succ List.set_cons_zero List.set_cons_succ List.map_cons List.map_nil aq abin aint astr abeq aconv asame aextract alenS alenL_nils alenL_emp alenL_imm alenL_wr alenL_wc aun apart aload afieldAddr afield aidxSl_wr aidxSl_wc aidxSl_imm aidxPt aidxStr aidxArr abound asliceStr asliceSl asliceArr abest anonil afill astore acells_nils acells_emp acells_imm acells_wr acells_wc acells_str acopy litAll amk as2b anil nilOf aseq aeqs aeqv fits fit1 hp_next hp_push hp_get hp_set List.length_cons List.length_nil List.getElem?_cons_zero List.getElem?_cons_succ List.cons_append List.nil_append List.append_nil List.take_succ_cons List.take_zero List.drop_succ_cons List.drop_zero List.all_cons List.all_nil Option.map_some Option.some.injEq Bool.and_true Bool.true_and Bool.false_eq_true if_true if_false ite_true ite_false Bool.and_self true_and and_true and_self Nat.zero_add Nat.le_refl Int.toNat_natCast beq_self_eq_true eq_self tops_zero tops_succ Int.natCast_nonneg List.take_nil List.drop_nil Option.map_none flat_bool one_bool cells_bool flat_int one_int cells_int flat_str one_str cells_str flat_nilp one_nilp cells_nilp flat_ptr one_ptr cells_ptr flat_nils one_nils cells_nils flat_imm one_imm cells_imm flat_wr one_wr cells_wr flat_wc one_wc cells_wc flat_func one_func cells_func flat_nilf one_nilf cells_nilf flat_map one_map cells_map flat_nilm one_nilm cells_nilm flat_iface one_iface cells_iface flat_nili one_nili cells_nili flat_rd one_rd cells_rd flat_emp one_emp cells_emp flat_byteV one_byteV cells_byteV flat_agg cells_agg one_agg B_size B_list B_ext B_toList B_app List.take_length Int.le_refl
/-- A tree; kp and kk: what its slices are where they have nothing (nil, or empty). -/
inductive Tr where
  | mk (name : List UInt8) (kp : Nat) (props : List (List UInt8 × List UInt8)) (kk : Nat) (kids : List Tr)
def Tr.name : Tr → List UInt8
  | .mk n _ _ _ _ => n
def Tr.kp : Tr → Nat
  | .mk _ k _ _ _ => k
def Tr.props : Tr → List (List UInt8 × List UInt8)
  | .mk _ _ p _ _ => p
def Tr.kk : Tr → Nat
  | .mk _ _ _ k _ => k
def Tr.kids : Tr → List Tr
  | .mk _ _ _ _ ks => ks
def propV (p : List UInt8 × List UInt8) : AV := .agg [.str (B p.1), .str (B p.2)]
theorem propV_cells (p : List UInt8 × List UInt8) : (propV p).cells = [.str (B p.1), .str (B p.2)] := rfl
mutual
def Tr.cells : Tr → List AV
  | .mk n kp ps kk ks => [.str (B n), slA kp 2 (ps.map propV), slA kk 3 (Tr.Vs ks)]
def Tr.Vs : List Tr → List AV
  | [] => []
  | t :: ts => .agg t.cells :: Tr.Vs ts
end
def Tr.V (t : Tr) : AV := .agg t.cells
theorem Tr.Vs_is : ∀ ks : List Tr, Tr.Vs ks = ks.map Tr.V
  | [] => by rw [Tr.Vs]; rfl
  | t :: ts => by rw [Tr.Vs, Tr.Vs_is ts]; rfl
theorem Tr.cells_is (t : Tr) : t.cells = [.str (B t.name), slA t.kp 2 (t.props.map propV), slA t.kk 3 (t.kids.map Tr.V)] := by
  cases t with
  | mk n kp ps kk ks => rw [Tr.cells, Tr.Vs_is]; rfl
theorem Tr.V_is (t : Tr) : t.V = .agg [.str (B t.name), slA t.kp 2 (t.props.map propV), slA t.kk 3 (t.kids.map Tr.V)] := by rw [Tr.V, Tr.cells_is]
theorem Tr.V_cells (t : Tr) : t.V.cells = [.str (B t.name), slA t.kp 2 (t.props.map propV), slA t.kk 3 (t.kids.map Tr.V)] := by rw [Tr.V_is]; rfl
theorem props_u (n : Nat) (ps : List (List UInt8 × List UInt8)) : AllC n (ps.map propV) := uc_map n ps (fun p => by rw [propV_cells]; simp only [u_top, u_bool, u_int, u_str, u_nilp, u_nils, u_nilf, u_nilm, u_nili, u_emp, u_byteV, u_ptr, u_wr, u_wc, u_agg, u_tup, u_rd, u_imm, u_func, u_nil, u_cons, u_app, uc_nil, uc_cons, uc_app, u_bytes, uc_bytes, u_ints, uc_ints, cells_bool, cells_int, cells_str, cells_agg, cells_ptr, cells_nils, cells_imm, cells_wr, cells_wc, cells_nilp, cells_nilf, cells_nilm, cells_rd, cells_emp, cells_byteV, cells_func, and_self, and_true, true_and, u_slA, uc_strs, cells_slA, strV_is])
mutual
theorem Tr.cu (n : Nat) : ∀ t : Tr, AllU n t.cells
  | .mk nm kp ps kk ks => by
    rw [Tr.cells]
    simp only [u_cons, u_nil, u_str, u_slA, and_true, true_and]
    exact ⟨props_u n ps, Tr.csu n ks⟩
theorem Tr.csu (n : Nat) : ∀ ks : List Tr, AllC n (Tr.Vs ks)
  | [] => by rw [Tr.Vs, uc_nil]; trivial
  | t :: ts => by
    rw [Tr.Vs, uc_cons]
    exact ⟨Tr.cu n t, Tr.csu n ts⟩
end
theorem Tr.V_u (n : Nat) (t : Tr) : t.V.under n := by rw [Tr.V, u_agg]; exact Tr.cu n t
theorem kids_u (n : Nat) (t : Tr) : AllC n (t.kids.map Tr.V) := by
  have := Tr.cu n t
  rw [Tr.cells_is] at this
  simp only [u_cons, u_nil, u_str, u_slA, and_true, true_and] at this
  exact this.2
def tr0 : Tr := .mk [] 0 [] 0 []
theorem tr_at {ls : List Tr} {i : Nat} (h : i < ls.length) : (ls.map Tr.V)[i]? = some (Tr.V (ls.getD i tr0)) := by
  rw [List.getElem?_map, List.getD_eq_getElem?_getD, List.getElem?_eq_getElem h]
  rfl
theorem prop_at {ls : List (List UInt8 × List UInt8)} {i : Nat} (h : i < ls.length) : (ls.map propV)[i]? = some (propV (ls.getD i ([], []))) := by
  rw [List.getElem?_map, List.getD_eq_getElem?_getD, List.getElem?_eq_getElem h]
  rfl
/-- Sizes that can be. -/
inductive TrOk : Tr → Prop
  | mk (name : List UInt8) (kp : Nat) (props : List (List UInt8 × List UInt8)) (kk : Nat) (kids : List Tr) : name.length ≤ 9223372036854775807 → props.length ≤ 9223372036854775807 → (∀ p ∈ props, p.1.length ≤ 9223372036854775807 ∧ p.2.length ≤ 9223372036854775807) → kids.length ≤ 9223372036854775807 → (∀ k ∈ kids, TrOk k) → TrOk (.mk name kp props kk kids)
theorem TrOk.n {t : Tr} (h : TrOk t) : t.name.length ≤ 9223372036854775807 := by cases h; assumption
theorem TrOk.p {t : Tr} (h : TrOk t) : t.props.length ≤ 9223372036854775807 := by cases h; assumption
theorem TrOk.k {t : Tr} (h : TrOk t) : t.kids.length ≤ 9223372036854775807 := by cases h; assumption
theorem TrOk.ps {t : Tr} (h : TrOk t) : ∀ p ∈ t.props, p.1.length ≤ 9223372036854775807 ∧ p.2.length ≤ 9223372036854775807 := by cases h; assumption
theorem TrOk.ks {t : Tr} (h : TrOk t) : ∀ k ∈ t.kids, TrOk k := by cases h; assumption
theorem tr_mem {l : List Tr} {i : Nat} (h : i < l.length) : l.getD i tr0 ∈ l := by
  rw [List.getD_eq_getElem?_getD, List.getElem?_eq_getElem h]
  exact List.getElem_mem _
def trRow (t : Tr) : AObj := .row 25 0 [.str (B t.name), slA t.kp 2 (t.props.map propV), slA t.kk 3 (t.kids.map Tr.V)]
theorem trRow_is (t : Tr) : trRow t = .row 25 0 [.str (B t.name), slA t.kp 2 (t.props.map propV), slA t.kk 3 (t.kids.map Tr.V)] := rfl
/-! ### how big it is -/
/-! ### low trees -/
/-- A call is handed a slice of one's own that nobody writes to any more. -/
theorem acalls_shut {P : Program} {f : Nat} {pre post : List AV} {y z : AV} {H H2 : AHeap} {K : AV → AHeap → Prop} (hS : Shut H y H2 z) (h : (ACalls P) f (pre ++ z :: post) H2 K) : (ACalls P) f (pre ++ y :: post) H K := by
  intro g w vs hSim hR o act next Qc hn
  obtain ⟨u, hu, hrep⟩ := Reps.get hR (i := pre.length) (y := y) (by simp)
  obtain ⟨g', hE, hS', hr'⟩ := hS.sound hSim hrep
  have hR2 := Reps.replace hE hR (fun v hv => by rw [hu] at hv; obtain rfl := Option.some.inj hv; exact hr')
  exact h g' w vs hS' hR2 o act next Qc (fun y' H' g2 w2 v hk hE2 => hn y' H' g2 w2 v hk (hE.trans hE2))
section
variable {H G G2 : AHeap} {K : AV → AHeap → Prop} {y v v' v2 : AV} {n0 : Nat}
theorem aret_full (hn : H.next ≤ G.next) (hG : G.within G.next) (hy : y.under G.next) (hk : K y G) : ARet H.next K y G :=
  ⟨G, y, G.next, .refl _ _, hn, hy, hG, by rw [trunc_self]; exact hk⟩
theorem slat_under {e sz : Nat} {xs : List AV} (h : SlAt n0 G e sz v xs) : v.under G.next := by
  rcases h with ⟨rfl, rfl⟩ | ⟨id, gen, rfl, hid, hg⟩
  · exact .nils
  · exact .wr _ _ _ _ _ (G.lt hg)
end
section
variable {H : AHeap} {K : AV → AHeap → Prop}
end
/-- The names of a path: what has been read of one, the ones before, what is to come. -/
def scanP : List UInt8 → List (List UInt8) → List UInt8 → Option (List (List UInt8))
  | cur, out, [] => if cur = [] ∨ out.length = 7 then none else some (out ++ [cur])
  | cur, out, c :: rest => if c = 47 then (if cur = [] ∨ out.length = 7 then none else scanP [] (out ++ [cur]) rest) else scanP (cur ++ [c]) out rest
def partsP (p : List UInt8) : Option (List (List UInt8)) := if p = [47] then some [] else if p.getD 0 0 = 47 then scanP [] [] (p.drop 1) else none
def nameIs (n : List UInt8) (k : Tr) : Bool := decide (k.name = n)
def kidT (t : Tr) (n : List UInt8) : Option Tr := t.kids.find? (nameIs n)
def foundV : Option Tr → AV
  | some t => .tup [t.V, .bool true]
  | none => .tup [tr0.V, .bool false]
def valT (t : Tr) (n : List UInt8) : Option (List UInt8) := (t.props.find? (fun p => decide (p.1 = n))).map (·.2)
/-! ### a tree is the same as itself -/
/-! ### the node at a path -/
def walkTo : Tr → List (List UInt8) → Option Tr
  | t, [] => some t
  | t, n :: ns => match kidT t n with
    | some k => walkTo k ns
    | none => none
def findT (t : Tr) (p : List UInt8) : Option Tr := match partsP p with
  | some ns => walkTo t ns
  | none => none
theorem kidT_ok {t k : Tr} (ho : TrOk t) {n : List UInt8} (h : kidT t n = some k) : TrOk k := ho.ks k (List.mem_of_find?_eq_some h)
theorem walkTo_ok : ∀ {ns : List (List UInt8)} {t k : Tr}, TrOk t → walkTo t ns = some k → TrOk k
  | [], t, k, ho, h => by
    rw [walkTo] at h
    obtain rfl := Option.some.inj h
    exact ho
  | n :: ns, t, k, ho, h => by
    rw [walkTo] at h
    split at h
    · rename_i c hc
      exact walkTo_ok (kidT_ok ho hc) h
    · cases h
theorem scanP_le : ∀ (rest cur : List UInt8) (out ns : List (List UInt8)), out.length ≤ 7 → scanP cur out rest = some ns → ns.length ≤ 8
  | [], cur, out, ns, ho, h => by
    rw [scanP] at h
    split at h
    · cases h
    · obtain rfl := Option.some.inj h
      rw [List.length_append, List.length_singleton]
      omega
  | c :: rest, cur, out, ns, ho, h => by
    rw [scanP] at h
    split at h
    · split at h
      · cases h
      · rename_i q
        exact scanP_le rest _ _ ns (by have := fun e => q (.inr e); rw [List.length_append, List.length_singleton]; omega) h
    · exact scanP_le rest _ _ ns ho h
theorem partsP_le {p : List UInt8} {ns : List (List UInt8)} (h : partsP p = some ns) : ns.length ≤ 8 := by
  unfold partsP at h
  split at h
  · obtain rfl := Option.some.inj h
    exact Nat.zero_le _
  · split at h
    · exact scanP_le _ _ _ ns (Nat.zero_le _) h
    · cases h
theorem tr0_V : tr0.V = .agg [.str (B []), .nils, .nils] := rfl
def c203 : ACode := 
    (.seq 
    (.region [⟨(some 4), (.q (.move (.const (.int .i64 0)))), none⟩]) 
    (.seq 
    (.seq 
    (.region [⟨(some 7), (.q (.move (.tmp 1))), none⟩, ⟨(some 8), (.q (.len true (.tmp 7))), none⟩, ⟨(some 9), (.q (.bin .eql (.tmp 8) (.const (.int .i64 0)))), none⟩]) 
    (.cond (.tmp 9) 
    (.seq 
    (.region [⟨(some 10), (.q (.move (.tmp 0))), none⟩, ⟨(some 11), (.s (.call 227 [(.tmp 10)])), none⟩, ⟨(some 12), (.q (.bin .add (.tmp 11) (.const (.int .i64 1)))), none⟩, ⟨(some 4), (.q (.move (.tmp 12))), none⟩]) .ret) .skip)) 
    (.seq 
    (.seq 
    (.region [⟨(some 13), (.q (.move (.tmp 1))), none⟩, ⟨(some 14), (.q (.len true (.tmp 13))), none⟩, ⟨(some 15), (.q (.bin .eql (.tmp 14) (.const (.int .i64 1)))), none⟩]) 
    (.cond (.tmp 15) 
    (.seq 
    (.region [⟨(some 16), (.q (.move (.tmp 0))), none⟩, ⟨(some 17), (.q (.move (.tmp 1))), none⟩, ⟨(some 18), (.q (.idxStr (.tmp 17) (.const (.int .i64 0)))), none⟩, ⟨(some 19), (.s (.call 229 [(.tmp 16), (.tmp 18)])), none⟩, ⟨(some 4), (.q (.move (.tmp 19))), none⟩]) .ret) .skip)) 
    (.seq 
    (.region [⟨(some 5), (.q (.move (.const (.int .i64 0)))), none⟩]) 
    (.block 0 
    (.loop 
    (.block 1 
    (.seq 
    (.region [⟨(some 20), (.q (.move (.tmp 0))), none⟩, ⟨(some 21), (.q (.move (.tmp 1))), none⟩, ⟨(some 22), (.s (.call 160 [(.tmp 20), (.tmp 21)])), none⟩, ⟨(some 6), (.q (.move (.tmp 22))), none⟩]) 
    (.seq 
    (.seq 
    (.region [⟨(some 23), (.q (.move (.tmp 6))), none⟩, ⟨(some 24), (.q (.bin .eql (.tmp 23) (.const (.int .i64 (-1))))), none⟩]) 
    (.cond (.tmp 24) 
    (.seq 
    (.region [⟨(some 25), (.q (.move (.tmp 5))), none⟩, ⟨(some 4), (.q (.move (.tmp 25))), none⟩]) .ret) .skip)) 
    (.seq 
    (.region [⟨(some 26), (.q (.move (.tmp 5))), none⟩, ⟨(some 27), (.q (.bin .add (.tmp 26) (.const (.int .i64 1)))), none⟩, ⟨(some 5), (.q (.move (.tmp 27))), none⟩]) 
    (.region [⟨(some 28), (.q (.move (.tmp 0))), none⟩, ⟨(some 29), (.q (.move (.tmp 6))), none⟩, ⟨(some 30), (.q (.move (.tmp 1))), none⟩, ⟨(some 31), (.q (.len true (.tmp 30))), none⟩, ⟨(some 32), (.q (.bin .add (.tmp 29) (.tmp 31))), none⟩, ⟨(some 33), (.q (.sliceStr (.tmp 28) (some (.tmp 32)) none)), none⟩, ⟨(some 0), (.q (.move (.tmp 33))), none⟩])))))))))))
theorem t203 : Told Tryz.prog 203 34 c203 [(.tmp 4)] := ⟨Tryz.f203, _, [], Tryz.func203, rfl, by kernel_rfl, rfl, by kernel_rfl, by kernel_rfl⟩
def c206 : ACode := 
    (.seq 
    (.region [⟨(some 4), (.q (.move (.const (.str (B []))))), none⟩, ⟨(some 5), (.q (.move (.const (.bool false)))), none⟩]) 
    (.seq 
    (.region [⟨(some 6), (.q (.move (.tmp 0))), none⟩, ⟨(some 7), (.q (.move (.tmp 1))), none⟩, ⟨(some 8), (.s (.call 232 [(.tmp 6), (.tmp 7)])), none⟩, ⟨(some 9), (.q (.extract 0 (.tmp 8))), none⟩, ⟨(some 10), (.q (.extract 1 (.tmp 8))), none⟩, ⟨(some 4), (.q (.move (.tmp 9))), none⟩, ⟨(some 5), (.q (.move (.tmp 10))), none⟩]) .ret))
theorem t206 : Told Tryz.prog 206 11 c206 [(.tmp 4), (.tmp 5)] := ⟨Tryz.f206, _, [], Tryz.func206, rfl, by kernel_rfl, rfl, by kernel_rfl, by kernel_rfl⟩
def c232 : ACode := 
    (.seq 
    (.region [⟨(some 4), (.q (.move (.const (.str (B []))))), none⟩, ⟨(some 5), (.q (.move (.const (.bool false)))), none⟩]) 
    (.seq 
    (.seq 
    (.region [⟨(some 6), (.q (.move (.tmp 0))), none⟩, ⟨(some 7), (.q (.move (.tmp 1))), none⟩, ⟨(some 8), (.s (.call 226 [(.tmp 6), (.tmp 7)])), none⟩, ⟨(some 9), (.q (.un .not (.tmp 8))), none⟩]) 
    (.cond (.tmp 9) 
    (.seq 
    (.region [⟨(some 10), (.q (.move (.tmp 0))), none⟩, ⟨(some 4), (.q (.move (.tmp 10))), none⟩, ⟨(some 5), (.q (.move (.const (.bool false)))), none⟩]) .ret) .skip)) 
    (.seq 
    (.region [⟨(some 11), (.q (.move (.tmp 0))), none⟩, ⟨(some 12), (.q (.move (.tmp 0))), none⟩, ⟨(some 13), (.q (.len true (.tmp 12))), none⟩, ⟨(some 14), (.q (.move (.tmp 1))), none⟩, ⟨(some 15), (.q (.len true (.tmp 14))), none⟩, ⟨(some 16), (.q (.bin .sub (.tmp 13) (.tmp 15))), none⟩, ⟨(some 17), (.q (.sliceStr (.tmp 11) none (some (.tmp 16)))), none⟩, ⟨(some 4), (.q (.move (.tmp 17))), none⟩, ⟨(some 5), (.q (.move (.const (.bool true)))), none⟩]) .ret)))
theorem t232 : Told Tryz.prog 232 18 c232 [(.tmp 4), (.tmp 5)] := ⟨Tryz.f232, _, [], Tryz.func232, rfl, by kernel_rfl, rfl, by kernel_rfl, by kernel_rfl⟩
def c133 : ACode := 
    (.seq 
    (.region [⟨(some 4), (.q (.move (.const .nils))), none⟩]) 
    (.seq 
    (.region [⟨(some 5), (.q (.move (.tmp 0))), none⟩, ⟨(some 6), (.q (.move (.tmp 1))), none⟩, ⟨(some 7), (.s (.call 174 [(.tmp 5), (.tmp 6), (.const (.int .i64 0)), (.const (.int .i64 (-1)))])), none⟩, ⟨(some 4), (.q (.move (.tmp 7))), none⟩]) .ret))
theorem t133 : Told Tryz.prog 133 8 c133 [(.tmp 4)] := ⟨Tryz.f133, _, [], Tryz.func133, rfl, by kernel_rfl, rfl, by kernel_rfl, by kernel_rfl⟩
def c174 : ACode := 
    (.seq 
    (.region [⟨(some 8), (.q (.move (.const .nils))), none⟩]) 
    (.seq 
    (.seq 
    (.region [⟨(some 12), (.q (.move (.tmp 3))), none⟩, ⟨(some 13), (.q (.bin .eql (.tmp 12) (.const (.int .i64 0)))), none⟩]) 
    (.cond (.tmp 13) 
    (.seq 
    (.region [⟨(some 8), (.q (.move (.const .nils))), none⟩]) .ret) .skip)) 
    (.seq 
    (.seq 
    (.region [⟨(some 14), (.q (.move (.tmp 1))), none⟩, ⟨(some 15), (.q (.bin .eql (.tmp 14) (.const (.str (B []))))), none⟩]) 
    (.cond (.tmp 15) 
    (.seq 
    (.region [⟨(some 16), (.q (.move (.tmp 0))), none⟩, ⟨(some 17), (.q (.move (.tmp 3))), none⟩, ⟨(some 18), (.s (.call 202 [(.tmp 16), (.tmp 17)])), none⟩, ⟨(some 8), (.q (.move (.tmp 18))), none⟩]) .ret) .skip)) 
    (.seq 
    (.seq 
    (.region [⟨(some 19), (.q (.move (.tmp 3))), none⟩, ⟨(some 20), (.q (.bin .lss (.tmp 19) (.const (.int .i64 0)))), none⟩]) 
    (.cond (.tmp 20) 
    (.region [⟨(some 21), (.q (.move (.tmp 0))), none⟩, ⟨(some 22), (.q (.move (.tmp 1))), none⟩, ⟨(some 23), (.s (.call 203 [(.tmp 21), (.tmp 22)])), none⟩, ⟨(some 24), (.q (.bin .add (.tmp 23) (.const (.int .i64 1)))), none⟩, ⟨(some 3), (.q (.move (.tmp 24))), none⟩]) .skip)) 
    (.seq 
    (.region [⟨(some 25), (.q (.move (.tmp 3))), none⟩, ⟨(some 26), (.q (.move (.tmp 0))), none⟩, ⟨(some 27), (.q (.len true (.tmp 26))), none⟩, ⟨(some 28), (.q (.bin .add (.tmp 27) (.const (.int .i64 1)))), none⟩, ⟨(some 29), (.q (.best false (.tmp 25) (.tmp 28))), none⟩, ⟨(some 3), (.q (.move (.tmp 29))), none⟩]) 
    (.seq 
    (.region [⟨(some 30), (.q (.move (.tmp 3))), none⟩, ⟨(some 31), (.s (.mk 9 1 16 [(.str (B []))] (.tmp 30))), none⟩, ⟨(some 9), (.q (.move (.tmp 31))), none⟩]) 
    (.seq 
    (.region [⟨(some 32), (.q (.move (.tmp 3))), none⟩, ⟨(some 33), (.q (.bin .sub (.tmp 32) (.const (.int .i64 1)))), none⟩, ⟨(some 3), (.q (.move (.tmp 33))), none⟩]) 
    (.seq 
    (.region [⟨(some 10), (.q (.move (.const (.int .i64 0)))), none⟩]) 
    (.seq 
    (.block 0 
    (.loop 
    (.seq 
    (.seq 
    (.region [⟨(some 34), (.q (.move (.tmp 10))), none⟩, ⟨(some 35), (.q (.move (.tmp 3))), none⟩, ⟨(some 36), (.q (.bin .lss (.tmp 34) (.tmp 35))), none⟩]) 
    (.cond (.tmp 36) .skip (.exit 0))) 
    (.block 1 
    (.seq 
    (.region [⟨(some 37), (.q (.move (.tmp 0))), none⟩, ⟨(some 38), (.q (.move (.tmp 1))), none⟩, ⟨(some 39), (.s (.call 160 [(.tmp 37), (.tmp 38)])), none⟩, ⟨(some 11), (.q (.move (.tmp 39))), none⟩]) 
    (.seq 
    (.seq 
    (.region [⟨(some 40), (.q (.move (.tmp 11))), none⟩, ⟨(some 41), (.q (.bin .lss (.tmp 40) (.const (.int .i64 0)))), none⟩]) 
    (.cond (.tmp 41) (.exit 0) .skip)) 
    (.seq 
    (.region [⟨(some 42), (.q (.move (.tmp 9))), none⟩, ⟨(some 43), (.q (.move (.tmp 10))), none⟩, ⟨(some 44), (.q (.move (.tmp 0))), none⟩, ⟨(some 45), (.q (.move (.tmp 11))), none⟩, ⟨(some 46), (.q (.move (.tmp 2))), none⟩, ⟨(some 47), (.q (.bin .add (.tmp 45) (.tmp 46))), none⟩, ⟨(some 48), (.q (.sliceStr (.tmp 44) none (some (.tmp 47)))), none⟩, ⟨(some 49), (.q (.idxSl 1 (.tmp 42) (.tmp 43))), none⟩, ⟨none, (.s (.store 1 (.tmp 49) (.tmp 48))), none⟩]) 
    (.seq 
    (.region [⟨(some 50), (.q (.move (.tmp 0))), none⟩, ⟨(some 51), (.q (.move (.tmp 11))), none⟩, ⟨(some 52), (.q (.move (.tmp 1))), none⟩, ⟨(some 53), (.q (.len true (.tmp 52))), none⟩, ⟨(some 54), (.q (.bin .add (.tmp 51) (.tmp 53))), none⟩, ⟨(some 55), (.q (.sliceStr (.tmp 50) (some (.tmp 54)) none)), none⟩, ⟨(some 0), (.q (.move (.tmp 55))), none⟩]) 
    (.region [⟨(some 56), (.q (.move (.tmp 10))), none⟩, ⟨(some 57), (.q (.bin .add (.tmp 56) (.const (.int .i64 1)))), none⟩, ⟨(some 10), (.q (.move (.tmp 57))), none⟩]))))))))) 
    (.seq 
    (.region [⟨(some 58), (.q (.move (.tmp 9))), none⟩, ⟨(some 59), (.q (.move (.tmp 10))), none⟩, ⟨(some 60), (.q (.move (.tmp 0))), none⟩, ⟨(some 61), (.q (.idxSl 1 (.tmp 58) (.tmp 59))), none⟩, ⟨none, (.s (.store 1 (.tmp 61) (.tmp 60))), none⟩]) 
    (.seq 
    (.region [⟨(some 62), (.q (.move (.tmp 9))), none⟩, ⟨(some 63), (.q (.move (.tmp 10))), none⟩, ⟨(some 64), (.q (.bin .add (.tmp 63) (.const (.int .i64 1)))), none⟩, ⟨(some 65), (.q (.sliceSl 1 (.tmp 62) none (some (.tmp 64)))), none⟩, ⟨(some 8), (.q (.move (.tmp 65))), none⟩]) .ret)))))))))))
theorem t174 : Told Tryz.prog 174 66 c174 [(.tmp 8)] := ⟨Tryz.f174, _, [], Tryz.func174, rfl, by kernel_rfl, rfl, by kernel_rfl, by kernel_rfl⟩
def c221 : ACode := 
    (.seq 
    (.region [⟨(some 4), (.q (.move (.const (.int .i64 0)))), none⟩]) 
    (.seq 
    (.region [⟨(some 5), (.q (.move (.tmp 0))), none⟩, ⟨(some 6), (.q (.move (.tmp 1))), none⟩, ⟨(some 7), (.s (.call 238 [(.tmp 5), (.tmp 6)])), none⟩, ⟨(some 4), (.q (.move (.tmp 7))), none⟩]) .ret))
theorem t221 : Told Tryz.prog 221 8 c221 [(.tmp 4)] := ⟨Tryz.f221, _, [], Tryz.func221, rfl, by kernel_rfl, rfl, by kernel_rfl, by kernel_rfl⟩
def c194 : ACode := 
    (.seq 
    (.region [⟨(some 4), (.q (.move (.const (.int .i64 0)))), none⟩]) 
    (.seq 
    (.region [⟨(some 14), (.q (.move (.tmp 1))), none⟩, ⟨(some 15), (.q (.len true (.tmp 14))), none⟩, ⟨(some 5), (.q (.move (.tmp 15))), none⟩]) 
    (.seq 
    (.block 0 
    (.seq 
    (.region [⟨(some 17), (.q (.move (.tmp 5))), none⟩, ⟨(some 18), (.q (.bin .eql (.tmp 17) (.const (.int .i64 0)))), none⟩, ⟨(some 19), (.q (.move (.tmp 18))), none⟩, ⟨(some 20), (.q (.move (.tmp 1))), (some (19, false))⟩, ⟨(some 21), (.q (.move (.tmp 0))), (some (19, false))⟩, ⟨(some 22), (.q (.bin .eql (.tmp 20) (.tmp 21))), (some (19, false))⟩, ⟨(some 23), (.q (.pick (.tmp 19) (.const (.bool true)) (.tmp 22))), none⟩, ⟨(some 16), (.q (.move (.tmp 23))), none⟩]) 
    (.cond (.tmp 16) 
    (.seq 
    (.region [⟨(some 4), (.q (.move (.const (.int .i64 0)))), none⟩]) .ret) 
    (.seq 
    (.region [⟨(some 25), (.q (.move (.tmp 5))), none⟩, ⟨(some 26), (.q (.bin .eql (.tmp 25) (.const (.int .i64 1)))), none⟩, ⟨(some 24), (.q (.move (.tmp 26))), none⟩]) 
    (.cond (.tmp 24) 
    (.seq 
    (.region [⟨(some 27), (.q (.move (.tmp 0))), none⟩, ⟨(some 28), (.q (.move (.tmp 1))), none⟩, ⟨(some 29), (.q (.idxStr (.tmp 28) (.const (.int .i64 0)))), none⟩, ⟨(some 30), (.s (.call 221 [(.tmp 27), (.tmp 29)])), none⟩, ⟨(some 4), (.q (.move (.tmp 30))), none⟩]) .ret) 
    (.seq 
    (.region [⟨(some 32), (.q (.move (.tmp 5))), none⟩, ⟨(some 33), (.q (.move (.tmp 0))), none⟩, ⟨(some 34), (.q (.len true (.tmp 33))), none⟩, ⟨(some 35), (.q (.bin .geq (.tmp 32) (.tmp 34))), none⟩, ⟨(some 31), (.q (.move (.tmp 35))), none⟩]) 
    (.cond (.tmp 31) 
    (.seq 
    (.region [⟨(some 4), (.q (.move (.const (.int .i64 (-1))))), none⟩]) .ret) 
    (.seq 
    (.region [⟨(some 37), (.q (.move (.tmp 5))), none⟩, ⟨(some 38), (.s .stop), none⟩, ⟨(some 39), (.q (.bin .leq (.tmp 37) (.tmp 38))), none⟩, ⟨(some 40), (.q (.move (.tmp 39))), none⟩, ⟨(some 41), (.q (.move (.tmp 0))), (some (40, true))⟩, ⟨(some 42), (.q (.len true (.tmp 41))), (some (40, true))⟩, ⟨(some 43), (.q (.bin .leq (.tmp 42) (.const (.int .i64 64)))), (some (40, true))⟩, ⟨(some 44), (.q (.pick (.tmp 40) (.tmp 43) (.const (.bool false)))), none⟩, ⟨(some 36), (.q (.move (.tmp 44))), none⟩]) 
    (.cond (.tmp 36) 
    (.seq 
    (.region [⟨(some 45), (.q (.move (.tmp 0))), none⟩, ⟨(some 46), (.q (.move (.tmp 1))), none⟩, ⟨(some 47), (.s (.call 222 [(.tmp 45), (.tmp 46)])), none⟩, ⟨(some 4), (.q (.move (.tmp 47))), none⟩]) .ret) .skip))))))))) 
    (.seq 
    (.region [⟨(some 48), (.q (.move (.tmp 1))), none⟩, ⟨(some 49), (.q (.idxStr (.tmp 48) (.const (.int .i64 0)))), none⟩, ⟨(some 6), (.q (.move (.tmp 49))), none⟩]) 
    (.seq 
    (.region [⟨(some 50), (.q (.move (.tmp 1))), none⟩, ⟨(some 51), (.q (.idxStr (.tmp 50) (.const (.int .i64 1)))), none⟩, ⟨(some 7), (.q (.move (.tmp 51))), none⟩]) 
    (.seq 
    (.region [⟨(some 8), (.q (.move (.const (.int .i64 0)))), none⟩]) 
    (.seq 
    (.region [⟨(some 52), (.q (.move (.tmp 0))), none⟩, ⟨(some 53), (.q (.len true (.tmp 52))), none⟩, ⟨(some 54), (.q (.move (.tmp 5))), none⟩, ⟨(some 55), (.q (.bin .sub (.tmp 53) (.tmp 54))), none⟩, ⟨(some 56), (.q (.bin .add (.tmp 55) (.const (.int .i64 1)))), none⟩, ⟨(some 9), (.q (.move (.tmp 56))), none⟩]) 
    (.seq 
    (.region [⟨(some 10), (.q (.move (.const (.int .i64 0)))), none⟩]) 
    (.seq 
    (.block 1 
    (.loop 
    (.seq 
    (.seq 
    (.region [⟨(some 57), (.q (.move (.tmp 8))), none⟩, ⟨(some 58), (.q (.move (.tmp 9))), none⟩, ⟨(some 59), (.q (.bin .lss (.tmp 57) (.tmp 58))), none⟩]) 
    (.cond (.tmp 59) .skip (.exit 1))) 
    (.block 2 
    (.seq 
    (.seq 
    (.region [⟨(some 60), (.q (.move (.tmp 0))), none⟩, ⟨(some 61), (.q (.move (.tmp 8))), none⟩, ⟨(some 62), (.q (.idxStr (.tmp 60) (.tmp 61))), none⟩, ⟨(some 63), (.q (.move (.tmp 6))), none⟩, ⟨(some 64), (.q (.bin .neq (.tmp 62) (.tmp 63))), none⟩]) 
    (.cond (.tmp 64) 
    (.seq 
    (.region [⟨(some 65), (.q (.move (.tmp 0))), none⟩, ⟨(some 66), (.q (.move (.tmp 8))), none⟩, ⟨(some 67), (.q (.bin .add (.tmp 66) (.const (.int .i64 1)))), none⟩, ⟨(some 68), (.q (.move (.tmp 9))), none⟩, ⟨(some 69), (.q (.sliceStr (.tmp 65) (some (.tmp 67)) (some (.tmp 68)))), none⟩, ⟨(some 70), (.q (.move (.tmp 6))), none⟩, ⟨(some 71), (.s (.call 221 [(.tmp 69), (.tmp 70)])), none⟩, ⟨(some 11), (.q (.move (.tmp 71))), none⟩]) 
    (.seq 
    (.seq 
    (.region [⟨(some 72), (.q (.move (.tmp 11))), none⟩, ⟨(some 73), (.q (.bin .lss (.tmp 72) (.const (.int .i64 0)))), none⟩]) 
    (.cond (.tmp 73) 
    (.seq 
    (.region [⟨(some 4), (.q (.move (.const (.int .i64 (-1))))), none⟩]) .ret) .skip)) 
    (.region [⟨(some 74), (.q (.move (.tmp 8))), none⟩, ⟨(some 75), (.q (.move (.tmp 11))), none⟩, ⟨(some 76), (.q (.bin .add (.tmp 75) (.const (.int .i64 1)))), none⟩, ⟨(some 77), (.q (.bin .add (.tmp 74) (.tmp 76))), none⟩, ⟨(some 8), (.q (.move (.tmp 77))), none⟩]))) .skip)) 
    (.seq 
    (.seq 
    (.region [⟨(some 78), (.q (.move (.tmp 0))), none⟩, ⟨(some 79), (.q (.move (.tmp 8))), none⟩, ⟨(some 80), (.q (.bin .add (.tmp 79) (.const (.int .i64 1)))), none⟩, ⟨(some 81), (.q (.idxStr (.tmp 78) (.tmp 80))), none⟩, ⟨(some 82), (.q (.move (.tmp 7))), none⟩, ⟨(some 83), (.q (.bin .eql (.tmp 81) (.tmp 82))), none⟩, ⟨(some 84), (.q (.move (.tmp 83))), none⟩, ⟨(some 85), (.q (.move (.tmp 0))), (some (84, true))⟩, ⟨(some 86), (.q (.move (.tmp 8))), (some (84, true))⟩, ⟨(some 87), (.q (.move (.tmp 8))), (some (84, true))⟩, ⟨(some 88), (.q (.move (.tmp 5))), (some (84, true))⟩, ⟨(some 89), (.q (.bin .add (.tmp 87) (.tmp 88))), (some (84, true))⟩, ⟨(some 90), (.q (.sliceStr (.tmp 85) (some (.tmp 86)) (some (.tmp 89)))), (some (84, true))⟩, ⟨(some 91), (.q (.move (.tmp 1))), (some (84, true))⟩, ⟨(some 92), (.q (.bin .eql (.tmp 90) (.tmp 91))), (some (84, true))⟩, ⟨(some 93), (.q (.pick (.tmp 84) (.tmp 92) (.const (.bool false)))), none⟩]) 
    (.cond (.tmp 93) 
    (.seq 
    (.region [⟨(some 94), (.q (.move (.tmp 8))), none⟩, ⟨(some 4), (.q (.move (.tmp 94))), none⟩]) .ret) .skip)) 
    (.seq 
    (.region [⟨(some 95), (.q (.move (.tmp 8))), none⟩, ⟨(some 96), (.q (.bin .add (.tmp 95) (.const (.int .i64 1)))), none⟩, ⟨(some 8), (.q (.move (.tmp 96))), none⟩]) 
    (.seq 
    (.region [⟨(some 97), (.q (.move (.tmp 10))), none⟩, ⟨(some 98), (.q (.bin .add (.tmp 97) (.const (.int .i64 1)))), none⟩, ⟨(some 10), (.q (.move (.tmp 98))), none⟩]) 
    (.seq 
    (.region [⟨(some 99), (.q (.move (.tmp 5))), none⟩, ⟨(some 100), (.s .stop), none⟩, ⟨(some 101), (.q (.bin .leq (.tmp 99) (.tmp 100))), none⟩, ⟨(some 102), (.q (.move (.tmp 101))), none⟩, ⟨(some 103), (.q (.move (.tmp 10))), (some (102, true))⟩, ⟨(some 104), (.q (.move (.tmp 8))), (some (102, true))⟩, ⟨(some 105), (.s (.call 223 [(.tmp 104)])), (some (102, true))⟩, ⟨(some 106), (.q (.bin .gtr (.tmp 103) (.tmp 105))), (some (102, true))⟩, ⟨(some 107), (.q (.pick (.tmp 102) (.tmp 106) (.const (.bool false)))), none⟩]) 
    (.cond (.tmp 107) 
    (.seq 
    (.region [⟨(some 108), (.q (.move (.tmp 0))), none⟩, ⟨(some 109), (.q (.move (.tmp 8))), none⟩, ⟨(some 110), (.q (.sliceStr (.tmp 108) (some (.tmp 109)) none)), none⟩, ⟨(some 111), (.q (.move (.tmp 1))), none⟩, ⟨(some 112), (.s (.call 222 [(.tmp 110), (.tmp 111)])), none⟩, ⟨(some 12), (.q (.move (.tmp 112))), none⟩]) 
    (.seq 
    (.seq 
    (.region [⟨(some 113), (.q (.move (.tmp 12))), none⟩, ⟨(some 114), (.q (.bin .geq (.tmp 113) (.const (.int .i64 0)))), none⟩]) 
    (.cond (.tmp 114) 
    (.seq 
    (.region [⟨(some 115), (.q (.move (.tmp 12))), none⟩, ⟨(some 116), (.q (.move (.tmp 8))), none⟩, ⟨(some 117), (.q (.bin .add (.tmp 115) (.tmp 116))), none⟩, ⟨(some 4), (.q (.move (.tmp 117))), none⟩]) .ret) .skip)) 
    (.seq 
    (.region [⟨(some 4), (.q (.move (.const (.int .i64 (-1))))), none⟩]) .ret))) 
    (.seq 
    (.region [⟨(some 118), (.q (.move (.tmp 5))), none⟩, ⟨(some 119), (.s .stop), none⟩, ⟨(some 120), (.q (.bin .gtr (.tmp 118) (.tmp 119))), none⟩, ⟨(some 121), (.q (.move (.tmp 120))), none⟩, ⟨(some 122), (.q (.move (.tmp 10))), (some (121, true))⟩, ⟨(some 123), (.q (.move (.tmp 8))), (some (121, true))⟩, ⟨(some 124), (.q (.bin .shr (.tmp 123) (.const (.int .u64 4)))), (some (121, true))⟩, ⟨(some 125), (.q (.bin .add (.const (.int .i64 4)) (.tmp 124))), (some (121, true))⟩, ⟨(some 126), (.q (.bin .geq (.tmp 122) (.tmp 125))), (some (121, true))⟩, ⟨(some 127), (.q (.pick (.tmp 121) (.tmp 126) (.const (.bool false)))), none⟩, ⟨(some 128), (.q (.move (.tmp 127))), none⟩, ⟨(some 129), (.q (.move (.tmp 8))), (some (128, true))⟩, ⟨(some 130), (.q (.move (.tmp 9))), (some (128, true))⟩, ⟨(some 131), (.q (.bin .lss (.tmp 129) (.tmp 130))), (some (128, true))⟩, ⟨(some 132), (.q (.pick (.tmp 128) (.tmp 131) (.const (.bool false)))), none⟩]) 
    (.cond (.tmp 132) 
    (.seq 
    (.region [⟨(some 133), (.q (.move (.tmp 0))), none⟩, ⟨(some 134), (.q (.move (.tmp 8))), none⟩, ⟨(some 135), (.q (.sliceStr (.tmp 133) (some (.tmp 134)) none)), none⟩, ⟨(some 136), (.q (.move (.tmp 1))), none⟩, ⟨(some 137), (.s (.call 224 [(.tmp 135), (.tmp 136)])), none⟩, ⟨(some 13), (.q (.move (.tmp 137))), none⟩]) 
    (.seq 
    (.seq 
    (.region [⟨(some 138), (.q (.move (.tmp 13))), none⟩, ⟨(some 139), (.q (.bin .lss (.tmp 138) (.const (.int .i64 0)))), none⟩]) 
    (.cond (.tmp 139) 
    (.seq 
    (.region [⟨(some 4), (.q (.move (.const (.int .i64 (-1))))), none⟩]) .ret) .skip)) 
    (.seq 
    (.region [⟨(some 140), (.q (.move (.tmp 8))), none⟩, ⟨(some 141), (.q (.move (.tmp 13))), none⟩, ⟨(some 142), (.q (.bin .add (.tmp 140) (.tmp 141))), none⟩, ⟨(some 4), (.q (.move (.tmp 142))), none⟩]) .ret))) .skip)))))))))))) 
    (.seq 
    (.region [⟨(some 4), (.q (.move (.const (.int .i64 (-1))))), none⟩]) .ret))))))))))
theorem t194 : Told Tryz.prog 194 143 c194 [(.tmp 4)] := ⟨Tryz.f194, _, [], Tryz.func194, rfl, by kernel_rfl, rfl, by kernel_rfl, by kernel_rfl⟩
def c160 : ACode := 
    (.seq 
    (.region [⟨(some 4), (.q (.move (.const (.int .i64 0)))), none⟩]) 
    (.seq 
    (.region [⟨(some 5), (.q (.move (.tmp 0))), none⟩, ⟨(some 6), (.q (.move (.tmp 1))), none⟩, ⟨(some 7), (.s (.call 194 [(.tmp 5), (.tmp 6)])), none⟩, ⟨(some 4), (.q (.move (.tmp 7))), none⟩]) .ret))
theorem t160 : Told Tryz.prog 160 8 c160 [(.tmp 4)] := ⟨Tryz.f160, _, [], Tryz.func160, rfl, by kernel_rfl, rfl, by kernel_rfl, by kernel_rfl⟩
/-- Where a byte is first: what is ahead of it, what is behind it, whether it is there. -/
def cut1 (c : UInt8) : List UInt8 → List UInt8 × List UInt8 × Bool
  | [] => ([], [], false)
  | b :: l => if b = c then ([], l, true) else (b :: (cut1 c l).1, (cut1 c l).2.1, (cut1 c l).2.2)
theorem cut1_found {c : UInt8} : ∀ {l : List UInt8}, (cut1 c l).2.2 = true → l = (cut1 c l).1 ++ c :: (cut1 c l).2.1
  | [], h => by simp [cut1] at h
  | b :: l, h => by
    by_cases hb : b = c
    · subst hb; simp [cut1]
    · simp only [cut1, if_neg hb] at h ⊢
      rw [List.cons_append, ← cut1_found h]
theorem cut1_none {c : UInt8} : ∀ {l : List UInt8}, (cut1 c l).2.2 = false → (cut1 c l).1 = l ∧ (cut1 c l).2.1 = [] ∧ c ∉ l
  | [], _ => by simp [cut1]
  | b :: l, h => by
    by_cases hb : b = c
    · subst hb; simp [cut1] at h
    · simp only [cut1, if_neg hb] at h ⊢
      obtain ⟨h1, h2, h3⟩ := cut1_none h
      exact ⟨by rw [h1], h2, by simp [h3, Ne.symm hb]⟩
theorem cut1_free {c : UInt8} : ∀ {l : List UInt8}, c ∉ (cut1 c l).1
  | [] => by simp [cut1]
  | b :: l => by
    by_cases hb : b = c
    · subst hb; simp [cut1]
    · simp only [cut1, if_neg hb, List.mem_cons, not_or]
      exact ⟨Ne.symm hb, cut1_free⟩
theorem cut1_mem {c : UInt8} {l : List UInt8} : ((cut1 c l).2.2 = true) ↔ (c ∈ l) := by
  constructor
  · intro h
    rw [cut1_found h]
    simp
  · intro h
    cases h2 : (cut1 c l).2.2 with
    | true => rfl
    | false => exact absurd h (cut1_none h2).2.2
theorem cut1_le {c : UInt8} : ∀ {l : List UInt8}, (cut1 c l).1.length ≤ l.length
  | [] => by simp [cut1]
  | b :: l => by
    by_cases hb : b = c
    · simp [cut1, hb]
    · simp only [cut1, if_neg hb, List.length_cons]
      have := cut1_le (c := c) (l := l)
      omega
theorem indexByte_cut {c : UInt8} : ∀ (l : List UInt8), Lib.indexByte l c = if (cut1 c l).2.2 = true then ((cut1 c l).1.length : Int) else -1
  | [] => rfl
  | b :: l => by
    by_cases hb : b = c
    · subst hb; simp [Lib.indexByte, cut1]
    · have hb' : (b == c) = false := by simpa using hb
      simp only [Lib.indexByte, cut1, if_neg hb, hb', indexByte_cut l, Bool.false_eq_true, if_false, List.length_cons]
      cases (cut1 c l).2.2 with
      | true =>
        have : ((((cut1 c l).1.length : Int)) == -1) = false := by simp
        simp [this]
      | false => simp
theorem ibs_a {l : List UInt8} {c : UInt8} {H : AHeap} {K : AV → AHeap → Prop} (h : K (.int .i64 (Lib.indexByte l c)) H) : (ACalls Tryz.prog) 238 [.str (B l), .int .u8 (c.toNat : Int)] H K :=
  acalls_extq h fun g w vs hS hR => by
    obtain ⟨u, v, rfl, h1, h2⟩ := reps_two hR
    have e1 := str_inv h1
    have e2 := int_inv h2
    subst e1
    subst e2
    refine ⟨.int .i64 (Lib.indexByte l c), ?_, .int _ _⟩
    rw [run_callFunc_extern Tryz.func238 (by kernel_rfl) (by kernel_rfl) (by kernel_rfl) (e := Extern.BytealgIndexByte.indexByte) (by kernel_rfl), Lib.run_indexByteString]
    simp [B_list, Result.andThen]
theorem sib_a {l : List UInt8} {c : UInt8} {H : AHeap} {K : AV → AHeap → Prop} (h : K (.int .i64 (Lib.indexByte l c)) H) : (ACalls Tryz.prog) 221 [.str (B l), .int .u8 (c.toNat : Int)] H K := by
  refine acalls_go mo t221 (fun hs hu => ?_)
  simp only [c221, go_sem, Nat.reduceLeDiff, Nat.reduceAdd, Nat.reduceSub, Nat.reduceMul, Nat.reduceLT, Int.reduceLT, Int.reduceLE, Int.reduceAdd, Int.reduceSub, Int.reduceMul, Int.reduceToNat, Int.reduceNeg, Int.reduceEq, Nat.reducePow, Int.reducePow, Nat.reduceEqDiff, decide_true, decide_false, reduceIte, reduceCtorEq, Int.reduceBEq, Int.reduceBNe, bne_self_eq_false, Int.cast_ofNat_Int, Bool.not_true, Bool.not_false, IntKind.bits]
  refine ibs_a ?_
  refine stp0 ?_
  exact aret_u hs (h)
theorem sindex_a {l : List UInt8} {c : UInt8} {H : AHeap} {K : AV → AHeap → Prop} (h : K (.int .i64 (Lib.indexByte l c)) H) : (ACalls Tryz.prog) 194 [.str (B l), .str (B [c])] H K := by
  refine acalls_go mo t194 (fun hs hu => ?_)
  simp only [c194, go_sem, Nat.reduceLeDiff, Nat.reduceAdd, Nat.reduceSub, Nat.reduceMul, Nat.reduceLT, Int.reduceLT, Int.reduceLE, Int.reduceAdd, Int.reduceSub, Int.reduceMul, Int.reduceToNat, Int.reduceNeg, Int.reduceEq, Nat.reducePow, Int.reducePow, Nat.reduceEqDiff, decide_true, decide_false, reduceIte, reduceCtorEq, Int.reduceBEq, Int.reduceBNe, bne_self_eq_false, Int.cast_ofNat_Int, Bool.not_true, Bool.not_false, IntKind.bits]
  refine stp0 ?_
  refine cnd_dec (fun h1 => ?_) (fun h1 => ?_)
  · subst h1
    have h0 : Lib.indexByte [c] c = 0 := by simp [Lib.indexByte]
    rw [h0] at h
    refine stp0 ?_
    exact aret_u hs (h)
  · refine stp0 ?_
    refine sib_a ?_
    refine stp0 ?_
    exact aret_u hs (h)
theorem index_a {l : List UInt8} {c : UInt8} {H : AHeap} {K : AV → AHeap → Prop} (h : K (.int .i64 (Lib.indexByte l c)) H) : (ACalls Tryz.prog) 160 [.str (B l), .str (B [c])] H K := by
  refine acalls_go mo t160 (fun hs hu => ?_)
  simp only [c160, go_sem, Nat.reduceLeDiff, Nat.reduceAdd, Nat.reduceSub, Nat.reduceMul, Nat.reduceLT, Int.reduceLT, Int.reduceLE, Int.reduceAdd, Int.reduceSub, Int.reduceMul, Int.reduceToNat, Int.reduceNeg, Int.reduceEq, Nat.reducePow, Int.reducePow, Nat.reduceEqDiff, decide_true, decide_false, reduceIte, reduceCtorEq, Int.reduceBEq, Int.reduceBNe, bne_self_eq_false, Int.cast_ofNat_Int, Bool.not_true, Bool.not_false, IntKind.bits]
  refine sindex_a ?_
  refine stp0 ?_
  exact aret_u hs (h)
/-- The parts of a text between bytes c. -/
def splitA (c : UInt8) : List UInt8 → List UInt8 → List (List UInt8)
  | acc, [] => [acc]
  | acc, b :: l => if b = c then acc :: splitA c [] l else splitA c (acc ++ [b]) l
theorem split_cut (c : UInt8) : ∀ (l acc : List UInt8), splitA c acc l = if (cut1 c l).2.2 = true then (acc ++ (cut1 c l).1) :: splitA c [] (cut1 c l).2.1 else [acc ++ l]
  | [], acc => by simp [splitA, cut1]
  | b :: l, acc => by
    rw [splitA, cut1]
    by_cases h : b = c
    · rw [if_pos h, if_pos h, if_pos rfl, List.append_nil]
    · rw [if_neg h, if_neg h, split_cut c l]
      simp only
      rw [List.append_assoc, List.append_assoc]
      rfl
theorem split_len (c : UInt8) : ∀ (l acc : List UInt8), (splitA c acc l).length = l.count c + 1
  | [], acc => rfl
  | b :: l, acc => by
    rw [splitA, List.count_cons]
    by_cases h : b = c
    · rw [if_pos h, List.length_cons, split_len c l, if_pos (by simpa using h)]
    · rw [if_neg h, split_len c l, if_neg (by simpa using h)]
theorem count_cut {c : UInt8} {l : List UInt8} (h : (cut1 c l).2.2 = true) : l.count c = (cut1 c l).2.1.count c + 1 := by
  have h1 := cut1_found h
  have h2 := cut1_free (c := c) (l := l)
  conv => lhs; rw [h1]
  rw [List.count_append, List.count_cons, List.count_eq_zero.2 h2]
  simp
theorem count_pos {c : UInt8} {l : List UInt8} (h : 0 < l.count c) : (cut1 c l).2.2 = true := cut1_mem.2 (List.count_pos_iff.1 h)
def rowS (ps : List (List UInt8)) (n : Nat) : List AV := ps.map strV ++ List.replicate (n - ps.length) (strV [])
theorem cut_parts {u p q : List UInt8} {c : UInt8} (h : u = p ++ c :: q) : u.take p.length = p ∧ u.drop (p.length + 1) = q ∧ p.length + 1 + q.length = u.length := by
  subst h
  refine ⟨by simp, by rw [← List.drop_drop]; simp, by simp; omega⟩
theorem rowS_0 (n : Nat) : (List.replicate n [AV.str (B [])]).flatten = rowS [] n := by
  unfold rowS
  rw [List.map_nil, List.nil_append, List.length_nil, Nat.sub_zero]
  induction n with
  | zero => rfl
  | succ n ih => rw [List.replicate_succ, List.flatten_cons, ih]; rfl
theorem rowS_len (ps : List (List UInt8)) (n : Nat) (h : ps.length ≤ n) : (rowS ps n).length = n := by
  unfold rowS
  rw [List.length_append, List.length_map, List.length_replicate]
  omega
theorem rowS_set (ps : List (List UInt8)) (w : List UInt8) (n : Nat) (h : ps.length < n) : (rowS ps n).take ps.length ++ [AV.str (B w)] ++ (rowS ps n).drop (ps.length + 1) = rowS (ps ++ [w]) n := by
  have hl : (ps.map strV).length = ps.length := List.length_map _
  unfold rowS
  rw [List.take_append_of_le_length (by omega), List.take_of_length_le (by omega), List.map_append, List.length_append, List.length_singleton]
  rw [← hl, List.drop_length_add_append]
  rw [List.drop_replicate, hl, Nat.sub_sub]
  rfl
section
variable {H : AHeap} {K : AV → AHeap → Prop}
theorem csb_a {l : List UInt8} {c : UInt8} (h : K (.int .i64 (l.count c : Int)) H) : (ACalls Tryz.prog) 229 [.str (B l), .int .u8 (c.toNat : Int)] H K :=
  acalls_extq h fun g w vs hS hR => by
    obtain ⟨u, v, rfl, h1, h2⟩ := reps_two hR
    have e1 := str_inv h1
    have e2 := int_inv h2
    subst e1
    subst e2
    refine ⟨.int .i64 (l.count c : Int), ?_, .int _ _⟩
    rw [run_callFunc_extern Tryz.func229 (by kernel_rfl) (by kernel_rfl) (by kernel_rfl) (e := Extern.BytealgCount.count) (by kernel_rfl), Lib.run_countString]
    simp [B_list, Result.andThen, Lib.countByte]
theorem cnt_a {l : List UInt8} {c : UInt8} (h : K (.int .i64 (l.count c : Int)) H) : (ACalls Tryz.prog) 203 [.str (B l), .str (B [c])] H K := by
  refine acalls_go mo t203 (fun hs hu => ?_)
  simp only [c203, go_sem, Nat.reduceLeDiff, Nat.reduceAdd, Nat.reduceSub, Nat.reduceMul, Nat.reduceLT, Int.reduceLT, Int.reduceLE, Int.reduceAdd, Int.reduceSub, Int.reduceMul, Int.reduceToNat, Int.reduceNeg, Int.reduceEq, Nat.reducePow, Int.reducePow, Nat.reduceEqDiff, decide_true, decide_false, reduceIte, reduceCtorEq, Int.reduceBEq, Int.reduceBNe, bne_self_eq_false, Int.cast_ofNat_Int, Bool.not_true, Bool.not_false, IntKind.bits]
  refine csb_a ?_
  refine stp0 ?_
  exact aret_u hs (h)
theorem hasSuf_a {l p : List UInt8} (hl : l.length < 9223372036854775808) (hp : p.length < 9223372036854775808) (h : K (.bool (decide (p.length ≤ l.length ∧ l.drop (l.length - p.length) = p))) H) : (ACalls Tryz.prog) 226 [.str (B l), .str (B p)] H K := by
  refine acalls_go mo t226 (fun hs hu => ?_)
  simp only [c226, go_sem, Nat.reduceLeDiff, Nat.reduceAdd, Nat.reduceSub, Nat.reduceMul, Nat.reduceLT, Int.reduceLT, Int.reduceLE, Int.reduceAdd, Int.reduceSub, Int.reduceMul, Int.reduceToNat, Int.reduceNeg, Int.reduceEq, Nat.reducePow, Int.reducePow, Nat.reduceEqDiff, decide_true, decide_false, reduceIte, reduceCtorEq, Int.reduceBEq, Int.reduceBNe, bne_self_eq_false, Int.cast_ofNat_Int, Bool.not_true, Bool.not_false, IntKind.bits]
  by_cases h1 : p.length ≤ l.length
  · have e : decide (p.length ≤ l.length ∧ l.drop (l.length - p.length) = p) = decide (l.drop (l.length - p.length) = p) := by simp [h1]
    rw [e] at h
    refine stp0 ?_
    exact aret_u hs (h)
  · rw [decide_eq_false (fun q => h1 q.1)] at h
    refine stp0 ?_
    exact aret_u hs (h)
theorem scutSuf_a {l p : List UInt8} (hl : l.length < 9223372036854775808) (hp : p.length < 9223372036854775808) (h : K (if p.length ≤ l.length ∧ l.drop (l.length - p.length) = p then .tup [.str (B (l.take (l.length - p.length))), .bool true] else .tup [.str (B l), .bool false]) H) : (ACalls Tryz.prog) 232 [.str (B l), .str (B p)] H K := by
  refine acalls_go mo t232 (fun hs hu => ?_)
  simp only [c232, go_sem, Nat.reduceLeDiff, Nat.reduceAdd, Nat.reduceSub, Nat.reduceMul, Nat.reduceLT, Int.reduceLT, Int.reduceLE, Int.reduceAdd, Int.reduceSub, Int.reduceMul, Int.reduceToNat, Int.reduceNeg, Int.reduceEq, Nat.reducePow, Int.reducePow, Nat.reduceEqDiff, decide_true, decide_false, reduceIte, reduceCtorEq, Int.reduceBEq, Int.reduceBNe, bne_self_eq_false, Int.cast_ofNat_Int, Bool.not_true, Bool.not_false, IntKind.bits]
  refine hasSuf_a hl hp ?_
  by_cases h1 : p.length ≤ l.length ∧ l.drop (l.length - p.length) = p
  · rw [if_pos h1] at h
    rw [decide_eq_true h1]
    have h2 := h1.1
    refine stp0 ?_
    exact aret_u hs (h)
  · rw [if_neg h1] at h
    rw [decide_eq_false h1]
    refine stp0 ?_
    exact aret_u hs (h)
theorem cutSuf_a {l p : List UInt8} (hl : l.length < 9223372036854775808) (hp : p.length < 9223372036854775808) (h : K (if p.length ≤ l.length ∧ l.drop (l.length - p.length) = p then .tup [.str (B (l.take (l.length - p.length))), .bool true] else .tup [.str (B l), .bool false]) H) : (ACalls Tryz.prog) 206 [.str (B l), .str (B p)] H K := by
  refine acalls_go mo t206 (fun hs hu => ?_)
  simp only [c206, go_sem, Nat.reduceLeDiff, Nat.reduceAdd, Nat.reduceSub, Nat.reduceMul, Nat.reduceLT, Int.reduceLT, Int.reduceLE, Int.reduceAdd, Int.reduceSub, Int.reduceMul, Int.reduceToNat, Int.reduceNeg, Int.reduceEq, Nat.reducePow, Int.reducePow, Nat.reduceEqDiff, decide_true, decide_false, reduceIte, reduceCtorEq, Int.reduceBEq, Int.reduceBNe, bne_self_eq_false, Int.cast_ofNat_Int, Bool.not_true, Bool.not_false, IntKind.bits]
  refine scutSuf_a hl hp ?_
  by_cases h1 : p.length ≤ l.length ∧ l.drop (l.length - p.length) = p
  · rw [if_pos h1] at h ⊢
    refine stp0 ?_
    exact aret_u hs (h)
  · rw [if_neg h1] at h ⊢
    refine stp0 ?_
    exact aret_u hs (h)
theorem strs_one (ps : List (List UInt8)) : ∀ x ∈ ps.map strV, x.cells.length = 1 := fun x hx => by obtain ⟨n, _, rfl⟩ := List.mem_map.1 hx; rfl
theorem genSplit_a {s : List UInt8} {c : UInt8} (hl : s.length < 1073741824) (h : ∀ k, K (slA k 1 ((splitA c [] s).map strV)) H) : (ACalls Tryz.prog) 174 [.str (B s), .str (B [c]), .int .i64 0, .int .i64 (-1)] H K := by
  refine acalls_go mo t174 (fun hs hu => ?_)
  have hcl : s.count c ≤ s.length := List.count_le_length
  simp only [c174, go_sem, Nat.reduceLeDiff, Nat.reduceAdd, Nat.reduceSub, Nat.reduceMul, Nat.reduceLT, Int.reduceLT, Int.reduceLE, Int.reduceAdd, Int.reduceSub, Int.reduceMul, Int.reduceToNat, Int.reduceNeg, Int.reduceEq, Nat.reducePow, Int.reducePow, Nat.reduceEqDiff, decide_true, decide_false, reduceIte, reduceCtorEq, Int.reduceBEq, Int.reduceBNe, bne_self_eq_false, Int.cast_ofNat_Int, Bool.not_true, Bool.not_false, IntKind.bits]
  refine stp0 ?_
  refine cnt_a ?_
  have e1 : ((List.count c s : Nat) : Int) + 1 = ((s.count c + 1 : Nat) : Int) := by omega
  have e2 : ¬ ((s.length + 1 : Nat) : Int) < ((s.count c + 1 : Nat) : Int) := by omega
  generalize hn : s.count c = n at *
  refine stp (And.intro e1 e2) ?_
  refine go_loopS mono (σ := List (List UInt8) × List UInt8) (fun z => [(0, .str (B z.2)), (10, .int .i64 (z.1.length : Int))]) (fun z => hp H [.row 9 0 (rowS z.1 (n + 1))]) (fun z => z.1 ++ splitA c [] z.2 = splitA c [] s ∧ z.1.length + z.2.count c = n ∧ z.2.length ≤ s.length) (fun z => z.2.length) ([], s) ?_ (by rw [rowS_0]) ⟨rfl, by rw [List.length_nil, Nat.zero_add]; exact hn, Nat.le_refl _⟩ (fun z hz J hJ => ?_)
  · exact fgt
  obtain ⟨ps, u⟩ := z
  obtain ⟨z1, z2, z3⟩ := hz
  simp only at z1 z2 z3
  have hrl := rowS_len ps (n + 1) (by omega)
  simp only [blurR_nil, blurR_some, blurR_none, blurC_region, blurC_regionN, blurC_fregion, blurT_nil, blurT_cons, blurC_seq, blurC_both, blurC_cond, blurC_block, blurC_loop, blurC_skip, blurC_exit, blurC_ret, tellS_nil, tellS_cons, List.set_cons_zero, List.set_cons_succ, tops_zero, tops_succ]
  by_cases d1 : ps.length < n
  · have hf := count_pos (c := c) (l := u) (by omega)
    have hcu := count_cut hf
    have hib := indexByte_cut (c := c) u
    have hfd := cut1_found hf
    have hsp := split_cut c u []
    rw [if_pos hf] at hib hsp
    have hle := cut1_le (c := c) (l := u)
    have hset := rowS_set ps (cut1 c u).1 (n + 1) (by omega)
    refine stp0 ?_
    refine index_a ?_
    rw [hib]
    obtain ⟨htk, hdr, hul⟩ := cut_parts hfd
    have hlt : (cut1 c u).1.length < u.length := by omega
    have hJ2 := fun a' => hJ (ps ++ [(cut1 c u).1], (cut1 c u).2.1) a' ⟨by
      rw [List.append_assoc, ← z1, hsp, List.nil_append]
      rfl, by show (ps ++ [(cut1 c u).1]).length + (cut1 c u).2.1.count c = n; rw [List.length_append, List.length_singleton]; omega, by show (cut1 c u).2.1.length ≤ s.length; omega⟩ (by show (cut1 c u).2.1.length < u.length; omega)
    clear hJ
    generalize (cut1 c u).1 = p at *
    generalize (cut1 c u).2.1 = q at *
    have e3 : p.length + 0 = p.length := Nat.add_zero _
    refine stp (And.intro htk (And.intro hdr (And.intro hrl (And.intro e3 hset)))) ?_
    rw [show ps.length + 1 = (ps ++ [p]).length by simp]
    exact hJ2 _ fgt
  · have hcz : u.count c = 0 := by omega
    have hpl : ps.length = n := by omega
    have hf : ¬ (cut1 c u).2.2 = true := fun q => by have := count_cut q; omega
    have hsp := split_cut c u []
    rw [if_neg hf, List.nil_append] at hsp
    rw [hsp] at z1
    have hset := rowS_set ps u (n + 1) (by omega)
    have hfull : rowS (ps ++ [u]) (n + 1) = (ps ++ [u]).map strV := by
      unfold rowS
      rw [List.length_append, List.length_singleton, hpl, Nat.sub_self]
      simp
    rw [hfull, hpl] at hset
    rw [← z1] at h
    have hx := h 2
    rw [show slA 2 1 ((ps ++ [u]).map strV) = .imm 1 ((ps ++ [u]).map strV) by cases ps <;> rfl] at hx
    refine stp (And.intro hpl (And.intro hrl hset)) ?_
    exact aret_wr (i := 0) (e := 9) (cs := (ps ++ [u]).map strV) ((ps ++ [u]).map strV) rfl (strs_one _) (by simp [hpl]) (by rw [map_one strV (fun _ => rfl)]) hs (by rw [u_imm, uc_strs]; trivial) hx
theorem split_a {s : List UInt8} {c : UInt8} (hl : s.length < 1073741824) (h : ∀ k, K (slA k 1 ((splitA c [] s).map strV)) H) : (ACalls Tryz.prog) 133 [.str (B s), .str (B [c])] H K := by
  refine acalls_go mo t133 (fun hs hu => ?_)
  simp only [c133, go_sem, Nat.reduceLeDiff, Nat.reduceAdd, Nat.reduceSub, Nat.reduceMul, Nat.reduceLT, Int.reduceLT, Int.reduceLE, Int.reduceAdd, Int.reduceSub, Int.reduceMul, Int.reduceToNat, Int.reduceNeg, Int.reduceEq, Nat.reducePow, Int.reducePow, Nat.reduceEqDiff, decide_true, decide_false, reduceIte, reduceCtorEq, Int.reduceBEq, Int.reduceBNe, bne_self_eq_false, Int.cast_ofNat_Int, Bool.not_true, Bool.not_false, IntKind.bits]
  refine genSplit_a hl (fun k => ?_)
  refine stp0 ?_
  exact aret_plain hs (by rw [u_slA, uc_strs]; trivial) (h k)
end
end Go.Proofs.YtmdgjfadbhenjaaGreatDoor.AL
/- The kit's own contracts as told calls. -/
namespace Go.Proofs.YtmdgjfadbhenjaaGreatDoor.AL
open Go Go.RowKit
theorem acalls_calls {P : Program} {f n : Nat} {ac : ACode} {rs : List RV} (hT : Told P f n ac rs) {args : List AV} {H : AHeap} {K : AV → AHeap → Prop}
    (h : ∀ g w vs, Sim g w H → Reps g w vs args → Calls P f vs w (fun e w' => ∃ v y H' g', e = .returned v ∧ K y H' ∧ Ext g w g' w' ∧ Sim g' w' H' ∧ Rep g' w' v y)) : ACalls P f args H K := by
  obtain ⟨fn, c, W, hf, hb, hname, _⟩ := hT.tell
  intro g w vs hS hR o act next Qc hn
  have hrun : (callFunc f vs).run P w = .ok (.enter f vs) w := by
    simp only [callFunc, Sem.run_bind, run_program, Result.andThen_ok, hf, hname, hb, Option.isNone_some, Bool.false_eq_true, if_false, Sem.run_pure]
  rw [hrun, Oper.upon_enter]
  refine (h g w vs hS hR).mono (fun e w' he => ?_)
  obtain ⟨v, y, H', g', rfl, hk, hE, hS', hr⟩ := he
  exact hn y H' g' w' v hk hE hS' hr
theorem sim_below {g : Ghost} {w w' : World} {H : AHeap} (hS : Sim g w H) (hb : Below w.heap.size w w') : Ext g w g w' ∧ Sim g w' H := by
  obtain ⟨h1, h2, h3, h4, h5⟩ := hb
  have hE : Ext g w g w' := ⟨fun _ _ _ h => h, fun _ h => h, fun b hb => h5 b (hS.zlt b hb), fun b s h => by
    have hl : b < w.heap.size := by
      rcases Nat.lt_or_ge b w.heap.size with q | q
      · exact q
      · unfold World.shape? at h
        rw [Array.getElem?_eq_none q] at h
        cases h
    unfold World.shape? at h ⊢
    rw [h5 b hl]
    exact h, h4, h1, h2, h3, fun _ _ h => h, fun b hb _ => h5 b hb⟩
  exact ⟨hE, ⟨fun b hb => Nat.lt_of_lt_of_le (hS.zlt b hb) h4, fun i k b hb => ⟨(hS.mlt i k b hb).1, Nat.lt_of_lt_of_le (hS.mlt i k b hb).2 h4⟩, fun i o ho => (hS.live i o ho).ext hE (fun b hb => h5 b (hS.mlt _ _ _ hb).2), hS.inj, hS.nz, hS.gen, hS.var.ext hE⟩⟩
end Go.Proofs.YtmdgjfadbhenjaaGreatDoor.AL
/- The kit's Join, laid at this program. -/
set_option linter.unusedVariables false
set_option maxRecDepth 100000
namespace Go.Proofs
open Go.Shelf
shelf_lay Lays.n156 Nm 156 at Tryz as Tryz.lays156
theorem Tryz.Builder_Extra_156 : Builder.Extra Tryz.prog Tryz.lays156_ren where
  sizeBuilder := by kernel_rfl
  liesBuilder := by kernel_rfl
  t5 := Tryz.underlying5
  a5 := Tryz.isAgg5
  z5 := Tryz.sizeOf5
  v5 := Tryz.zeroValue5
  infoByte := by kernel_rfl
  cellsByte := by kernel_rfl
  sizeByte := by kernel_rfl
  neB5 := by decide
namespace YtmdgjfadbhenjaaGreatDoor.AL
open Go Go.RowKit
theorem join_a {n : Nat} {ac : ACode} {rs : List RV} (hT : Told Tryz.prog 135 n ac rs) {ls : List (List UInt8)} {sep : List UInt8} {H : AHeap} {K : AV → AHeap → Prop} (hne : ls ≠ []) (hN : ls.length ≤ 140737488355328) (hl : (Lib.join ls sep).length ≤ 140737488355328) (h : K (.str (B (Lib.join ls sep))) H) : (ACalls Tryz.prog) 135 [.imm 1 (ls.map fun s => .str (B s)), .str (B sep)] H K :=
  acalls_calls hT fun g w vs hS hR => by
    obtain ⟨u, v, rfl, h1, h2⟩ := reps_two hR
    have e2 := str_inv h2
    subst e2
    obtain ⟨b, o, c, cu, rfl, hc, _, hz, _, hcell, hrep⟩ := h1.imm_inv
    have hmap : ((ls.map B).map (·.data.toList)) = ls := by
      rw [List.map_map]
      exact (List.map_congr_left (fun x _ => by simp [B])).trans (List.map_id _)
    have := Any.strings_Join Tryz.lays156 Tryz.Builder_Extra_156 b o c (ls.map B) (B sep) w (fun j x hx => by
      rw [List.getElem?_map] at hx
      obtain ⟨s, hs, rfl⟩ := Option.map_eq_some_iff.1 hx
      have hj : j < ls.length := (List.getElem?_eq_some_iff.1 hs).1
      rw [hcell j (by rw [List.length_map]; omega)]
      have := hrep j (.str (B s)) 0 (.str (B s)) (by rw [List.getElem?_map, hs]; rfl) rfl
      rw [Nat.mul_one, Nat.add_zero] at this
      rw [str_inv this]) (hS.zlt _ hz) (by rw [List.length_map]; exact hN) (by rw [List.length_map] at hc ⊢; exact hc) (by rw [hmap]; simpa [B] using hl)
    rw [List.length_map] at this ⊢
    refine this.mono (fun e w' he => ?_)
    obtain ⟨rfl, hb⟩ := he
    obtain ⟨hE, hS'⟩ := sim_below hS hb
    refine ⟨_, _, H, g, rfl, h, hE, hS', ?_⟩
    rw [hmap]
    have : (B sep).data.toList = sep := by simp [B]
    rw [this]
    exact .str _
end YtmdgjfadbhenjaaGreatDoor.AL
end Go.Proofs

/- Paths told: the program's names of a path, and what is looked for among kids and properties. -/
set_option linter.unusedSimpArgs false
set_option linter.unusedVariables false
set_option maxRecDepth 100000
set_option maxHeartbeats 16000000
namespace Go.Proofs.YtmdgjfadbhenjaaGreatDoor.AL
open Go Go.Proofs
attribute [local go_sem] go_seq go_skip go_region go_regionN go_fregion rgF_some go_cond go_block go_exit go_ret nxt_nil nxt_code nxt_blk nxt_cut leave_nil leave_code leave_cut leave_blk rtn_nil rtn_code rtn_blk rtn_cut cnd_t cnd_f rgn_nil rgY_some rgY_none rgH_some rgP_some retTo_is rgV_func grd_und grd_tt grd_ff grd_tf grd_ft rgn_q rgn_alloc rgn_box rgn_store rgn_lit rgn_litw rgn_litc litCells_nil litCells_cons rgn_app rgn_copy rgn_mk rgn_s2b rgn_call rgn_callv rgn_stop rgn_slice3 aslice3 rgn_slice3l aslice3l rgn_appz rgn_clear rgn_range rgn_next arange acap rgn_put rgn_mkmap rgn_lookup rgn_mapup alookup_nilm alookup_map amapup_map afound_ok afound_no rgn_c rgn_cv qclV_func aloadr rgn_guard post_ret post_normal retY_some ares aresL ares1 AX.ev aput List.getD_cons_zero List.getD_cons_succ List.set_cons_zero List.set_cons_succ List.map_cons List.map_nil aq abin aint astr abeq aconv asame aextract alenS alenL_nils alenL_emp alenL_imm alenL_wr alenL_wc aun apart aload afieldAddr afield aidxSl_wr aidxSl_wc aidxSl_imm aidxPt aidxStr aidxArr abound asliceStr asliceSl asliceArr abest anonil afill astore acells_nils acells_emp acells_imm acells_wr acells_wc acells_str acopy litAll amk as2b anil nilOf aseq aeqs aeqv fits fit1 hp_next hp_push hp_get hp_set List.length_cons List.length_nil List.getElem?_cons_zero List.getElem?_cons_succ List.cons_append List.nil_append List.append_nil List.take_succ_cons List.take_zero List.drop_succ_cons List.drop_zero List.all_cons List.all_nil Option.map_some Option.some.injEq Bool.and_true Bool.true_and Bool.false_eq_true if_true if_false ite_true ite_false Bool.and_self true_and and_true and_self Nat.zero_add Nat.le_refl Int.toNat_natCast beq_self_eq_true eq_self tops_zero tops_succ Int.natCast_nonneg List.take_nil List.drop_nil Option.map_none flat_bool one_bool cells_bool flat_int one_int cells_int flat_str one_str cells_str flat_nilp one_nilp cells_nilp flat_ptr one_ptr cells_ptr flat_nils one_nils cells_nils flat_imm one_imm cells_imm flat_wr one_wr cells_wr flat_wc one_wc cells_wc flat_func one_func cells_func flat_nilf one_nilf cells_nilf flat_map one_map cells_map flat_nilm one_nilm cells_nilm flat_iface one_iface cells_iface flat_nili one_nili cells_nili flat_rd one_rd cells_rd flat_emp one_emp cells_emp flat_byteV one_byteV cells_byteV flat_agg cells_agg one_agg B_size B_list B_ext B_toList B_app List.take_length Int.le_refl
def ixOf {α : Type} (p : α → Bool) : List α → Nat → Int
  | [], _ => -1
  | x :: xs, i => if p x = true then (i : Int) else ixOf p xs (i + 1)
theorem ixOf_any {α : Type} (p : α → Bool) : ∀ (xs : List α) (i : Nat), decide (0 ≤ ixOf p xs i) = xs.any p
  | [], i => rfl
  | x :: xs, i => by
    unfold ixOf
    split
    · rename_i h
      rw [List.any_cons, h, decide_eq_true (by omega)]
      rfl
    · rename_i h
      rw [Bool.not_eq_true] at h
      rw [List.any_cons, h, Bool.false_or, ixOf_any p xs (i + 1)]
theorem ixOf_drop {α : Type} (p : α → Bool) (xs : List α) (i : Nat) (d : α) (h : i < xs.length) : ixOf p (xs.drop i) i = if p (xs.getD i d) = true then (i : Int) else ixOf p (xs.drop (i + 1)) (i + 1) := by
  rw [List.drop_eq_getElem_cons h, ixOf]
  rw [List.getD_eq_getElem?_getD, List.getElem?_eq_getElem h]
  rfl
theorem ixOf_find {α : Type} (p : α → Bool) (d : α) : ∀ (xs : List α) (i : Nat), (xs.find? p = none ∧ ixOf p xs i = -1) ∨ ∃ j, ixOf p xs i = ((i + j : Nat) : Int) ∧ j < xs.length ∧ xs.find? p = some (xs.getD j d)
  | [], i => .inl ⟨rfl, rfl⟩
  | x :: xs, i => by
    rw [ixOf]
    by_cases h : p x = true
    · rw [if_pos h, List.find?_cons_of_pos h]
      exact .inr ⟨0, rfl, by simp, rfl⟩
    · rw [if_neg h, List.find?_cons_of_neg h]
      rcases ixOf_find p d xs (i + 1) with ⟨h1, h2⟩ | ⟨j, h1, h2, h3⟩
      · exact .inl ⟨h1, h2⟩
      · exact .inr ⟨j + 1, by rw [h1]; omega, by rw [List.length_cons]; omega, by rw [h3]; rfl⟩
theorem scan_split : ∀ (rest cur : List UInt8) (out : List (List UInt8)), out.length ≤ 7 → scanP cur out rest = if (splitA 47 cur rest).contains [] = false ∧ out.length + (splitA 47 cur rest).length ≤ 7 then some (out ++ splitA 47 cur rest) else none
  | [], cur, out, ho => by
    rw [scanP, splitA]
    by_cases h : cur = [] ∨ out.length = 7
    · rw [if_pos h, if_neg]
      rintro ⟨h1, h2⟩
      rcases h with rfl | h
      · simp at h1
      · rw [List.length_singleton] at h2
        omega
    · rw [if_neg h, if_pos]
      rw [not_or] at h
      refine ⟨?_, by rw [List.length_singleton]; omega⟩
      rw [List.contains_cons, List.contains_nil, Bool.or_false]
      simpa using fun e => h.1 e
  | c :: rest, cur, out, ho => by
    rw [scanP, splitA]
    by_cases hc : c = 47
    · rw [if_pos hc, if_pos hc]
      by_cases h : cur = [] ∨ out.length = 7
      · rw [if_pos h, if_neg]
        rintro ⟨h1, h2⟩
        rcases h with rfl | h
        · simp at h1
        · rw [List.length_cons] at h2
          omega
      · rw [if_neg h, scan_split rest [] (out ++ [cur]) (by rw [List.length_append, List.length_singleton]; rw [not_or] at h; omega)]
        rw [not_or] at h
        have e : (cur :: splitA 47 [] rest).contains [] = (splitA 47 [] rest).contains [] := by
          rw [List.contains_cons]
          have : (([] : List UInt8) == cur) = false := by simpa using fun e => h.1 e
          rw [this, Bool.false_or]
        rw [e]
        have e2 : (out ++ [cur]).length + (splitA 47 [] rest).length = out.length + (cur :: splitA 47 [] rest).length := by
          simp only [List.length_append, List.length_cons, List.length_nil]
          omega
        rw [e2, List.append_assoc]
        rfl
    · rw [if_neg hc, if_neg hc]
      exact scan_split rest _ out ho
section
variable {H : AHeap} {K : AV → AHeap → Prop}
theorem hasPre_a {l p : List UInt8} (hl : l.length < 9223372036854775808) (hp : p.length < 9223372036854775808) (h : K (.bool (decide (l.take p.length = p))) H) : (ACalls Tryz.prog) 201 [.str (B l), .str (B p)] H K := by
  refine acalls_go mo t201 (fun hs hu => ?_)
  simp only [c201, go_sem, Nat.reduceLeDiff, Nat.reduceAdd, Nat.reduceSub, Nat.reduceMul, Nat.reduceLT, Int.reduceLT, Int.reduceLE, Int.reduceAdd, Int.reduceSub, Int.reduceMul, Int.reduceToNat, Int.reduceNeg, Int.reduceEq, Nat.reducePow, Int.reducePow, Nat.reduceEqDiff, decide_true, decide_false, reduceIte, reduceCtorEq, Int.reduceBEq, Int.reduceBNe, bne_self_eq_false, Int.cast_ofNat_Int, Bool.not_true, Bool.not_false, IntKind.bits]
  by_cases h1 : p.length ≤ l.length
  · refine stp0 ?_
    exact aret_u hs (h)
  · have e : ¬ l.take p.length = p := fun e => h1 (by rw [← e, List.length_take]; exact Nat.min_le_right _ _)
    rw [decide_eq_false e] at h
    refine stp0 ?_
    exact aret_u hs (h)
theorem scutPre_a {l p : List UInt8} (hl : l.length < 9223372036854775808) (hp : p.length < 9223372036854775808) (h : K (if l.take p.length = p then .tup [.str (B (l.drop p.length)), .bool true] else .tup [.str (B l), .bool false]) H) : (ACalls Tryz.prog) 173 [.str (B l), .str (B p)] H K := by
  refine acalls_go mo t173 (fun hs hu => ?_)
  simp only [c173, go_sem, Nat.reduceLeDiff, Nat.reduceAdd, Nat.reduceSub, Nat.reduceMul, Nat.reduceLT, Int.reduceLT, Int.reduceLE, Int.reduceAdd, Int.reduceSub, Int.reduceMul, Int.reduceToNat, Int.reduceNeg, Int.reduceEq, Nat.reducePow, Int.reducePow, Nat.reduceEqDiff, decide_true, decide_false, reduceIte, reduceCtorEq, Int.reduceBEq, Int.reduceBNe, bne_self_eq_false, Int.cast_ofNat_Int, Bool.not_true, Bool.not_false, IntKind.bits]
  refine hasPre_a hl hp ?_
  by_cases h1 : l.take p.length = p
  · have h2 : p.length ≤ l.length := by
      have := congrArg List.length h1
      rw [List.length_take] at this
      omega
    rw [if_pos h1] at h
    rw [decide_eq_true h1]
    refine stp0 ?_
    exact aret_u hs (h)
  · rw [if_neg h1] at h
    rw [decide_eq_false h1]
    refine stp0 ?_
    exact aret_u hs (h)
theorem cutPre_a {l p : List UInt8} (hl : l.length < 9223372036854775808) (hp : p.length < 9223372036854775808) (h : K (if l.take p.length = p then .tup [.str (B (l.drop p.length)), .bool true] else .tup [.str (B l), .bool false]) H) : (ACalls Tryz.prog) 132 [.str (B l), .str (B p)] H K := by
  refine acalls_go mo t132 (fun hs hu => ?_)
  simp only [c132, go_sem, Nat.reduceLeDiff, Nat.reduceAdd, Nat.reduceSub, Nat.reduceMul, Nat.reduceLT, Int.reduceLT, Int.reduceLE, Int.reduceAdd, Int.reduceSub, Int.reduceMul, Int.reduceToNat, Int.reduceNeg, Int.reduceEq, Nat.reducePow, Int.reducePow, Nat.reduceEqDiff, decide_true, decide_false, reduceIte, reduceCtorEq, Int.reduceBEq, Int.reduceBNe, bne_self_eq_false, Int.cast_ofNat_Int, Bool.not_true, Bool.not_false, IntKind.bits]
  refine scutPre_a hl hp ?_
  by_cases h1 : l.take p.length = p
  · rw [if_pos h1] at h ⊢
    refine stp0 ?_
    exact aret_u hs (h)
  · rw [if_neg h1] at h ⊢
    refine stp0 ?_
    exact aret_u hs (h)
theorem indexS_s {k : Nat} {ls : List (List UInt8)} {x : List UInt8} (hn : ls.length ≤ 9223372036854775807) (h : K (.int .i64 (ixOf (fun y => decide (x = y)) ls 0)) H) : (ACalls Tryz.prog) 175 [slA k 1 (ls.map strV), .str (B x)] H K := by
  refine acalls_go mo t175 (fun hs hu => ?_)
  simp only [c175, go_sem, Nat.reduceLeDiff, Nat.reduceAdd, Nat.reduceSub, Nat.reduceMul, Nat.reduceLT, Int.reduceLT, Int.reduceLE, Int.reduceAdd, Int.reduceSub, Int.reduceMul, Int.reduceToNat, Int.reduceNeg, Int.reduceEq, Nat.reducePow, Int.reducePow, Nat.reduceEqDiff, decide_true, decide_false, reduceIte, reduceCtorEq, Int.reduceBEq, Int.reduceBNe, bne_self_eq_false, Int.cast_ofNat_Int, Bool.not_true, Bool.not_false, IntKind.bits]
  refine stp0 ?_
  refine go_loopS mono (σ := Nat) (fun i => [(8, .int .i64 (i : Int))]) (fun i => hp H []) (fun i => i ≤ ls.length ∧ ixOf (fun y => decide (x = y)) (ls.drop i) i = ixOf (fun y => decide (x = y)) ls 0) (fun i => ls.length - i) 0 ?_ rfl ⟨Nat.zero_le _, rfl⟩ (fun i hi J hJ => ?_)
  · exact fgt
  obtain ⟨hil, hid⟩ := hi
  simp only [blurR_nil, blurR_some, blurR_none, blurC_region, blurC_regionN, blurC_fregion, blurT_nil, blurT_cons, blurC_seq, blurC_both, blurC_cond, blurC_block, blurC_loop, blurC_skip, blurC_exit, blurC_ret, tellS_nil, tellS_cons, List.set_cons_zero, List.set_cons_succ, tops_zero, tops_succ]
  by_cases h1 : i < ls.length
  · have ha := strs_at h1
    rw [ixOf_drop _ ls i [] h1] at hid
    generalize ls.getD i [] = y at *
    by_cases h2 : x = y
    · rw [if_pos (decide_eq_true h2)] at hid
      rw [← hid] at h
      refine stp (And.intro ha h2) ?_
      exact aret_u hs (h)
    · rw [if_neg (by rw [decide_eq_false h2]; exact Bool.false_ne_true)] at hid
      refine stp (And.intro ha h2) ?_
      exact hJ (i + 1) _ ⟨h1, hid⟩ (by omega) fgt
  · rw [List.drop_of_length_le (by omega)] at hid
    rw [← hid] at h
    refine stp0 ?_
    exact aret_u hs (h)
theorem any_contains (x : List UInt8) (ls : List (List UInt8)) : ls.any (fun y => decide (x = y)) = ls.contains x := by
  rw [Bool.eq_iff_iff]
  simp
theorem containsS_a {k : Nat} {ls : List (List UInt8)} {x : List UInt8} (hn : ls.length ≤ 9223372036854775807) (h : K (.bool (ls.contains x)) H) : (ACalls Tryz.prog) 134 [slA k 1 (ls.map strV), .str (B x)] H K := by
  refine acalls_go mo t134 (fun hs hu => ?_)
  simp only [c134, go_sem, Nat.reduceLeDiff, Nat.reduceAdd, Nat.reduceSub, Nat.reduceMul, Nat.reduceLT, Int.reduceLT, Int.reduceLE, Int.reduceAdd, Int.reduceSub, Int.reduceMul, Int.reduceToNat, Int.reduceNeg, Int.reduceEq, Nat.reducePow, Int.reducePow, Nat.reduceEqDiff, decide_true, decide_false, reduceIte, reduceCtorEq, Int.reduceBEq, Int.reduceBNe, bne_self_eq_false, Int.cast_ofNat_Int, Bool.not_true, Bool.not_false, IntKind.bits]
  refine indexS_s hn ?_
  rw [← any_contains, ← ixOf_any _ ls 0] at h
  refine stp0 ?_
  exact aret_u hs (h)
def partsV (k : Nat) : Option (List (List UInt8)) → AV
  | some ns => .tup [slA k 1 (ns.map strV), .bool true]
  | none => .tup [.nils, .bool false]
theorem partsV_s (k : Nat) (ns : List (List UInt8)) : partsV k (some ns) = .tup [slA k 1 (ns.map strV), .bool true] := rfl
theorem partsV_n (k : Nat) : partsV k none = .tup [.nils, .bool false] := rfl
theorem take_one {p : List UInt8} : (p.take ([47] : List UInt8).length = [47]) ↔ p.getD 0 0 = 47 ∧ p ≠ [] := by
  cases p with
  | nil => simp
  | cons c r => simp
theorem Parts_a {p : List UInt8} (hl : p.length < 1073741824) (h : ∀ k, K (partsV k (partsP p)) H) : (ACalls Tryz.prog) 82 [.str (B p)] H K := by
  refine acalls_go mo t82 (fun hs hu => ?_)
  unfold partsP at h
  simp only [c82, go_sem, Nat.reduceLeDiff, Nat.reduceAdd, Nat.reduceSub, Nat.reduceMul, Nat.reduceLT, Int.reduceLT, Int.reduceLE, Int.reduceAdd, Int.reduceSub, Int.reduceMul, Int.reduceToNat, Int.reduceNeg, Int.reduceEq, Nat.reducePow, Int.reducePow, Nat.reduceEqDiff, decide_true, decide_false, reduceIte, reduceCtorEq, Int.reduceBEq, Int.reduceBNe, bne_self_eq_false, Int.cast_ofNat_Int, Bool.not_true, Bool.not_false, IntKind.bits]
  by_cases h1 : p = [47]
  · rw [if_pos h1] at h
    have hx := h 0
    rw [partsV_s] at hx
    have hx : K (.tup [.nils, .bool true]) H := hx
    refine stp h1 ?_
    exact aret_u hs (hx)
  rw [if_neg h1] at h
  refine stp h1 ?_
  refine cutPre_a (by omega) (by decide) ?_
  have hno := h 0
  by_cases h2 : p.getD 0 0 = 47
  · have h3 : p.take ([47] : List UInt8).length = [47] := take_one.2 ⟨h2, fun e => by rw [e] at h2; revert h2; decide⟩
    rw [if_pos h2, scan_split _ _ _ (by simp), List.nil_append, List.length_nil, Nat.zero_add] at h hno
    rw [if_pos h3, show ([47] : List UInt8).length = 1 from rfl]
    have hcnt := split_len 47 (p.drop 1) []
    have hcl := List.count_le_length (a := (47 : UInt8)) (l := p.drop 1)
    rw [List.length_drop] at hcl
    refine stp0 ?_
    refine split_a (by rw [List.length_drop]; omega) (fun k => ?_)
    by_cases h4 : (splitA 47 [] (p.drop 1)).length ≤ 7
    · refine stp0 ?_
      refine containsS_a (by omega) ?_
      cases h5 : (splitA 47 [] (p.drop 1)).contains [] with
      | true =>
        rw [h5, if_neg (by rintro ⟨q, _⟩; cases q), partsV_n] at hno
        refine stp0 ?_
        exact aret_u hs (hno)
      | false =>
        have hx := h k
        rw [h5, if_pos ⟨rfl, h4⟩, partsV_s] at hx
        refine stp0 ?_
        exact aret_plain hs (by simp only [u_tup, u_cons, u_nil, u_bool, u_slA, and_true]; rw [uc_strs]; trivial) hx
    · rw [if_neg (fun q => h4 q.2), partsV_n] at hno
      refine stp0 ?_
      exact aret_u hs (hno)
  · have h3 : ¬ p.take ([47] : List UInt8).length = [47] := fun q => h2 (take_one.1 q).1
    rw [if_neg h2, partsV_n] at hno
    rw [if_neg h3]
    refine stp0 ?_
    refine split_a (by omega) (fun k => ?_)
    refine stp0 ?_
    exact aret_u hs (hno)
end
def c122 : ACode := 
    (.seq 
    (.region [⟨(some 2), (.q (.move (.const (.int .i64 0)))), none⟩, ⟨(some 3), (.q (.move (.const (.bool false)))), none⟩]) 
    (.seq 
    (.seq 
    (.region [⟨(some 4), (.q (.move (.tmp 0))), none⟩, ⟨(some 5), (.q (.len true (.tmp 4))), none⟩, ⟨(some 6), (.q (.bin .neq (.tmp 5) (.const (.int .i64 4)))), none⟩]) 
    (.cond (.tmp 6) 
    (.seq 
    (.region [⟨(some 2), (.q (.move (.const (.int .i64 0)))), none⟩, ⟨(some 3), (.q (.move (.const (.bool false)))), none⟩]) .ret) .skip)) 
    (.seq 
    (.region [⟨(some 7), (.q (.move (.tmp 0))), none⟩, ⟨(some 8), (.s (.call 169 [(.tmp 7)])), none⟩, ⟨(some 9), (.q (.extract 0 (.tmp 8))), none⟩, ⟨(some 10), (.q (.extract 1 (.tmp 8))), none⟩, ⟨(some 2), (.q (.move (.tmp 9))), none⟩, ⟨(some 3), (.q (.move (.tmp 10))), none⟩]) .ret)))
theorem t122 : Told Tryz.prog 122 11 c122 [(.tmp 2), (.tmp 3)] := ⟨Tryz.f122, _, [], Tryz.func122, rfl, by kernel_rfl, rfl, by kernel_rfl, by kernel_rfl⟩
def c179 : ACode := 
    (.seq 
    (.region [⟨(some 2), (.q (.move (.const .nils))), none⟩, ⟨(some 3), (.q (.move (.const (.bool false)))), none⟩]) 
    (.seq 
    (.region [⟨(some 7), (.q (.move (.tmp 0))), none⟩, ⟨(some 8), (.s (.call 206 [(.tmp 7), (.const (.str (B [0])))])), none⟩, ⟨(some 6), (.q (.move (.tmp 8))), none⟩, ⟨(some 9), (.q (.extract 0 (.tmp 6))), none⟩, ⟨(some 10), (.q (.extract 1 (.tmp 6))), none⟩, ⟨(some 4), (.q (.move (.tmp 9))), none⟩, ⟨(some 5), (.q (.move (.tmp 10))), none⟩]) 
    (.seq 
    (.seq 
    (.region [⟨(some 11), (.q (.move (.tmp 5))), none⟩, ⟨(some 12), (.q (.un .not (.tmp 11))), none⟩]) 
    (.cond (.tmp 12) 
    (.seq 
    (.region [⟨(some 2), (.q (.move (.const .nils))), none⟩, ⟨(some 3), (.q (.move (.const (.bool false)))), none⟩]) .ret) .skip)) 
    (.seq 
    (.region [⟨(some 13), (.q (.move (.tmp 4))), none⟩, ⟨(some 14), (.s (.call 133 [(.tmp 13), (.const (.str (B [0])))])), none⟩, ⟨(some 2), (.q (.move (.tmp 14))), none⟩, ⟨(some 3), (.q (.move (.const (.bool true)))), none⟩]) .ret))))
theorem t179 : Told Tryz.prog 179 15 c179 [(.tmp 2), (.tmp 3)] := ⟨Tryz.f179, _, [], Tryz.func179, rfl, by kernel_rfl, rfl, by kernel_rfl, by kernel_rfl⟩
def c136 : ACode := 
    (.seq 
    (.region [⟨(some 2), (.q (.move (.const (.str (B []))))), none⟩, ⟨(some 3), (.q (.move (.const (.bool false)))), none⟩]) 
    (.seq 
    (.region [⟨(some 7), (.q (.move (.tmp 0))), none⟩, ⟨(some 8), (.s (.call 179 [(.tmp 7)])), none⟩, ⟨(some 6), (.q (.move (.tmp 8))), none⟩, ⟨(some 9), (.q (.extract 0 (.tmp 6))), none⟩, ⟨(some 10), (.q (.extract 1 (.tmp 6))), none⟩, ⟨(some 4), (.q (.move (.tmp 9))), none⟩, ⟨(some 5), (.q (.move (.tmp 10))), none⟩]) 
    (.seq 
    (.seq 
    (.region [⟨(some 11), (.q (.move (.tmp 5))), none⟩, ⟨(some 12), (.q (.un .not (.tmp 11))), none⟩, ⟨(some 13), (.q (.move (.tmp 12))), none⟩, ⟨(some 14), (.q (.move (.tmp 4))), (some (13, false))⟩, ⟨(some 15), (.q (.len false (.tmp 14))), (some (13, false))⟩, ⟨(some 16), (.q (.bin .neq (.tmp 15) (.const (.int .i64 1)))), (some (13, false))⟩, ⟨(some 17), (.q (.pick (.tmp 13) (.const (.bool true)) (.tmp 16))), none⟩]) 
    (.cond (.tmp 17) 
    (.seq 
    (.region [⟨(some 2), (.q (.move (.const (.str (B []))))), none⟩, ⟨(some 3), (.q (.move (.const (.bool false)))), none⟩]) .ret) .skip)) 
    (.seq 
    (.region [⟨(some 18), (.q (.move (.tmp 4))), none⟩, ⟨(some 19), (.q (.idxSl 1 (.tmp 18) (.const (.int .i64 0)))), none⟩, ⟨(some 20), (.q (.load false 1 (.tmp 19))), none⟩, ⟨(some 2), (.q (.move (.tmp 20))), none⟩, ⟨(some 3), (.q (.move (.const (.bool true)))), none⟩]) .ret))))
theorem t136 : Told Tryz.prog 136 21 c136 [(.tmp 2), (.tmp 3)] := ⟨Tryz.f136, _, [], Tryz.func136, rfl, by kernel_rfl, rfl, by kernel_rfl, by kernel_rfl⟩
def c169 : ACode := 
    (.seq 
    (.region [⟨(some 2), (.q (.move (.const (.int .i64 0)))), none⟩, ⟨(some 3), (.q (.move (.const (.bool false)))), none⟩]) 
    (.seq 
    (.seq 
    (.region [⟨(some 7), (.q (.move (.tmp 0))), none⟩, ⟨(some 8), (.q (.len true (.tmp 7))), none⟩, ⟨(some 9), (.q (.bin .lss (.tmp 8) (.const (.int .i64 4)))), none⟩]) 
    (.cond (.tmp 9) 
    (.seq 
    (.region [⟨(some 2), (.q (.move (.const (.int .i64 0)))), none⟩, ⟨(some 3), (.q (.move (.const (.bool false)))), none⟩]) .ret) .skip)) 
    (.seq 
    (.region [⟨(some 4), (.q (.move (.const (.int .i64 0)))), none⟩]) 
    (.seq 
    (.seq 
    (.region [⟨(some 10), (.q (.move (.tmp 0))), none⟩, ⟨(some 11), (.q (.sliceStr (.tmp 10) none (some (.const (.int .i64 4))))), none⟩, ⟨(some 12), (.s (.s2b 5 (.tmp 11))), none⟩, ⟨(some 13), (.q (.len false (.tmp 12))), none⟩, ⟨(some 14), (.q (.move (.const (.int .i64 0)))), none⟩]) 
    (.block 0 
    (.loop 
    (.seq 
    (.region [⟨(some 15), (.q (.bin .lss (.tmp 14) (.tmp 13))), none⟩]) 
    (.seq 
    (.cond (.tmp 15) .skip (.exit 0)) 
    (.seq 
    (.block 1 
    (.seq 
    (.region [⟨(some 16), (.q (.idxSl 1 (.tmp 12) (.tmp 14))), none⟩, ⟨(some 17), (.q (.load false 1 (.tmp 16))), none⟩, ⟨(some 6), (.q (.move (.tmp 17))), none⟩]) 
    (.region [⟨(some 18), (.q (.move (.tmp 4))), none⟩, ⟨(some 19), (.q (.bin .shl (.tmp 18) (.const (.int .u64 8)))), none⟩, ⟨(some 20), (.q (.move (.tmp 6))), none⟩, ⟨(some 21), (.q (.conv .i64 (.tmp 20))), none⟩, ⟨(some 22), (.q (.bin .or (.tmp 19) (.tmp 21))), none⟩, ⟨(some 4), (.q (.move (.tmp 22))), none⟩]))) 
    (.region [⟨(some 23), (.q (.bin .add (.tmp 14) (.const (.int .i64 1)))), none⟩, ⟨(some 14), (.q (.move (.tmp 23))), none⟩]))))))) 
    (.seq 
    (.region [⟨(some 24), (.q (.move (.tmp 4))), none⟩, ⟨(some 2), (.q (.move (.tmp 24))), none⟩, ⟨(some 3), (.q (.move (.const (.bool true)))), none⟩]) .ret)))))
theorem t169 : Told Tryz.prog 169 25 c169 [(.tmp 2), (.tmp 3)] := ⟨Tryz.f169, _, [], Tryz.func169, rfl, by kernel_rfl, rfl, by kernel_rfl, by kernel_rfl⟩
def c126 : ACode := 
    (.seq 
    (.region [⟨(some 2), (.q (.move (.const .nils))), none⟩, ⟨(some 3), (.q (.move (.const (.bool false)))), none⟩]) 
    (.seq 
    (.seq 
    (.region [⟨(some 7), (.q (.move (.tmp 0))), none⟩, ⟨(some 8), (.q (.len true (.tmp 7))), none⟩, ⟨(some 9), (.q (.bin .rem (.tmp 8) (.const (.int .i64 4)))), none⟩, ⟨(some 10), (.q (.bin .neq (.tmp 9) (.const (.int .i64 0)))), none⟩]) 
    (.cond (.tmp 10) 
    (.seq 
    (.region [⟨(some 2), (.q (.move (.const .nils))), none⟩, ⟨(some 3), (.q (.move (.const (.bool false)))), none⟩]) .ret) .skip)) 
    (.seq 
    (.region [⟨(some 4), (.q (.move (.const .nils))), none⟩]) 
    (.seq 
    (.block 0 
    (.loop 
    (.seq 
    (.seq 
    (.region [⟨(some 11), (.q (.move (.tmp 0))), none⟩, ⟨(some 12), (.q (.bin .neq (.tmp 11) (.const (.str (B []))))), none⟩]) 
    (.cond (.tmp 12) .skip (.exit 0))) 
    (.seq 
    (.block 1 
    (.seq 
    (.region [⟨(some 16), (.q (.move (.tmp 0))), none⟩, ⟨(some 17), (.s (.call 169 [(.tmp 16)])), none⟩, ⟨(some 15), (.q (.move (.tmp 17))), none⟩, ⟨(some 18), (.q (.extract 0 (.tmp 15))), none⟩, ⟨(some 19), (.q (.extract 1 (.tmp 15))), none⟩, ⟨(some 5), (.q (.move (.tmp 18))), none⟩, ⟨(some 6), (.q (.move (.tmp 19))), none⟩]) 
    (.region [⟨(some 20), (.q (.move (.tmp 4))), none⟩, ⟨(some 21), (.q (.move (.tmp 5))), none⟩, ⟨(some 22), (.s (.lit 3 1 [(.tmp 21)])), none⟩, ⟨(some 23), (.s (.app 3 1 8 (.tmp 20) (.tmp 22))), none⟩, ⟨(some 4), (.q (.move (.tmp 23))), none⟩]))) 
    (.region [⟨(some 13), (.q (.move (.tmp 0))), none⟩, ⟨(some 14), (.q (.sliceStr (.tmp 13) (some (.const (.int .i64 4))) none)), none⟩, ⟨(some 0), (.q (.move (.tmp 14))), none⟩]))))) 
    (.seq 
    (.region [⟨(some 24), (.q (.move (.tmp 4))), none⟩, ⟨(some 2), (.q (.move (.tmp 24))), none⟩, ⟨(some 3), (.q (.move (.const (.bool true)))), none⟩]) .ret)))))
theorem t126 : Told Tryz.prog 126 25 c126 [(.tmp 2), (.tmp 3)] := ⟨Tryz.f126, _, [], Tryz.func126, rfl, by kernel_rfl, rfl, by kernel_rfl, by kernel_rfl⟩
def c88 : ACode := 
    (.seq 
    (.region [⟨(some 2), (.q (.move (.const (.str (B []))))), none⟩]) 
    (.seq 
    (.region [⟨(some 3), (.q (.move (.const .nils))), none⟩]) 
    (.seq 
    (.seq 
    (.region [⟨(some 6), (.q (.move (.tmp 0))), none⟩, ⟨(some 7), (.q (.len false (.tmp 6))), none⟩, ⟨(some 8), (.q (.move (.const (.int .i64 0)))), none⟩]) 
    (.block 0 
    (.loop 
    (.seq 
    (.region [⟨(some 9), (.q (.bin .lss (.tmp 8) (.tmp 7))), none⟩]) 
    (.seq 
    (.cond (.tmp 9) .skip (.exit 0)) 
    (.seq 
    (.block 1 
    (.seq 
    (.region [⟨(some 10), (.q (.idxSl 1 (.tmp 6) (.tmp 8))), none⟩, ⟨(some 11), (.q (.load false 1 (.tmp 10))), none⟩, ⟨(some 5), (.q (.move (.tmp 11))), none⟩]) 
    (.region [⟨(some 12), (.q (.move (.tmp 3))), none⟩, ⟨(some 13), (.q (.move (.tmp 5))), none⟩, ⟨(some 14), (.q (.bin .shr (.tmp 13) (.const (.int .u64 24)))), none⟩, ⟨(some 15), (.q (.conv .u8 (.tmp 14))), none⟩, ⟨(some 16), (.q (.move (.tmp 5))), none⟩, ⟨(some 17), (.q (.bin .shr (.tmp 16) (.const (.int .u64 16)))), none⟩, ⟨(some 18), (.q (.conv .u8 (.tmp 17))), none⟩, ⟨(some 19), (.q (.move (.tmp 5))), none⟩, ⟨(some 20), (.q (.bin .shr (.tmp 19) (.const (.int .u64 8)))), none⟩, ⟨(some 21), (.q (.conv .u8 (.tmp 20))), none⟩, ⟨(some 22), (.q (.move (.tmp 5))), none⟩, ⟨(some 23), (.q (.conv .u8 (.tmp 22))), none⟩, ⟨(some 24), (.s (.lit 5 1 [(.tmp 15), (.tmp 18), (.tmp 21), (.tmp 23)])), none⟩, ⟨(some 25), (.s (.app 5 1 1 (.tmp 12) (.tmp 24))), none⟩, ⟨(some 3), (.q (.move (.tmp 25))), none⟩]))) 
    (.region [⟨(some 26), (.q (.bin .add (.tmp 8) (.const (.int .i64 1)))), none⟩, ⟨(some 8), (.q (.move (.tmp 26))), none⟩]))))))) 
    (.seq 
    (.region [⟨(some 27), (.q (.move (.tmp 3))), none⟩, ⟨(some 28), (.q (.b2s (.tmp 27))), none⟩, ⟨(some 2), (.q (.move (.tmp 28))), none⟩]) .ret))))
theorem t88 : Told Tryz.prog 88 29 c88 [(.tmp 2)] := ⟨Tryz.f88, _, [], Tryz.func88, rfl, by kernel_rfl, rfl, by kernel_rfl, by kernel_rfl⟩
def c91 : ACode := 
    (.seq 
    (.region [⟨(some 2), (.q (.move (.const (.str (B []))))), none⟩]) 
    (.seq 
    (.region [⟨(some 3), (.q (.move (.const (.str (B []))))), none⟩]) 
    (.seq 
    (.seq 
    (.region [⟨(some 4), (.q (.move (.const (.int .i64 0)))), none⟩]) 
    (.block 0 
    (.loop 
    (.seq 
    (.seq 
    (.region [⟨(some 5), (.q (.move (.tmp 4))), none⟩, ⟨(some 6), (.q (.move (.tmp 0))), none⟩, ⟨(some 7), (.q (.len false (.tmp 6))), none⟩, ⟨(some 8), (.q (.bin .lss (.tmp 5) (.tmp 7))), none⟩]) 
    (.cond (.tmp 8) .skip (.exit 0))) 
    (.seq 
    (.block 1 
    (.region [⟨(some 11), (.q (.move (.tmp 3))), none⟩, ⟨(some 12), (.q (.move (.tmp 0))), none⟩, ⟨(some 13), (.q (.move (.tmp 4))), none⟩, ⟨(some 14), (.q (.idxSl 1 (.tmp 12) (.tmp 13))), none⟩, ⟨(some 15), (.q (.load false 1 (.tmp 14))), none⟩, ⟨(some 16), (.s (.call 90 [(.tmp 15)])), none⟩, ⟨(some 17), (.q (.bin .add (.tmp 11) (.tmp 16))), none⟩, ⟨(some 3), (.q (.move (.tmp 17))), none⟩])) 
    (.region [⟨(some 9), (.q (.move (.tmp 4))), none⟩, ⟨(some 10), (.q (.bin .add (.tmp 9) (.const (.int .i64 1)))), none⟩, ⟨(some 4), (.q (.move (.tmp 10))), none⟩])))))) 
    (.seq 
    (.region [⟨(some 18), (.q (.move (.tmp 3))), none⟩, ⟨(some 2), (.q (.move (.tmp 18))), none⟩]) .ret))))
theorem t91 : Told Tryz.prog 91 19 c91 [(.tmp 2)] := ⟨Tryz.f91, _, [], Tryz.func91, rfl, by kernel_rfl, rfl, by kernel_rfl, by kernel_rfl⟩
def c90 : ACode := 
    (.seq 
    (.region [⟨(some 2), (.q (.move (.const (.str (B []))))), none⟩]) 
    (.seq 
    (.region [⟨(some 4), (.q (.move (.tmp 0))), none⟩, ⟨(some 5), (.q (.conv .u32 (.tmp 4))), none⟩, ⟨(some 3), (.q (.move (.tmp 5))), none⟩]) 
    (.seq 
    (.region [⟨(some 6), (.q (.move (.tmp 3))), none⟩, ⟨(some 7), (.q (.bin .quo (.tmp 6) (.const (.int .u32 16777216)))), none⟩, ⟨(some 8), (.q (.conv .u8 (.tmp 7))), none⟩, ⟨(some 9), (.q (.move (.tmp 3))), none⟩, ⟨(some 10), (.q (.bin .quo (.tmp 9) (.const (.int .u32 65536)))), none⟩, ⟨(some 11), (.q (.bin .rem (.tmp 10) (.const (.int .u32 256)))), none⟩, ⟨(some 12), (.q (.conv .u8 (.tmp 11))), none⟩, ⟨(some 13), (.q (.move (.tmp 3))), none⟩, ⟨(some 14), (.q (.bin .quo (.tmp 13) (.const (.int .u32 256)))), none⟩, ⟨(some 15), (.q (.bin .rem (.tmp 14) (.const (.int .u32 256)))), none⟩, ⟨(some 16), (.q (.conv .u8 (.tmp 15))), none⟩, ⟨(some 17), (.q (.move (.tmp 3))), none⟩, ⟨(some 18), (.q (.bin .rem (.tmp 17) (.const (.int .u32 256)))), none⟩, ⟨(some 19), (.q (.conv .u8 (.tmp 18))), none⟩, ⟨(some 20), (.s (.lit 5 1 [(.tmp 8), (.tmp 12), (.tmp 16), (.tmp 19)])), none⟩, ⟨(some 21), (.q (.b2s (.tmp 20))), none⟩, ⟨(some 2), (.q (.move (.tmp 21))), none⟩]) .ret)))
theorem t90 : Told Tryz.prog 90 22 c90 [(.tmp 2)] := ⟨Tryz.f90, _, [], Tryz.func90, rfl, by kernel_rfl, rfl, by kernel_rfl, by kernel_rfl⟩
end Go.Proofs.YtmdgjfadbhenjaaGreatDoor.AL
