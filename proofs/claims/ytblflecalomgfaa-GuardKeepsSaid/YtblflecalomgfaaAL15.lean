/- Going through told code step by step: the same as AL12's 'awp', with what is still to come as a list, so that rewriting alone goes through it. -/
import Derived.Test.YtblflecalomgfaaAL14
set_option linter.unusedVariables false
set_option linter.unusedSimpArgs false
namespace Go.Proofs.Ytblflecalomgfaa.AL
open Go
/-- What is still to come. -/
inductive Fr where
  | code (c : ACode)
  | blk (id : Nat)
  | cut (J : List AV → AHeap → Prop)
def stk (C : (Nat → List AV → AHeap → (AV → AHeap → Prop) → Prop)) : List Fr → (AExit → List AV → AHeap → Prop) → (AExit → List AV → AHeap → Prop)
  | [], Q => Q
  | .code y :: k, Q => fun e a H => match e with
    | .normal => awp C y (stk C k Q) a H
    | e => stk C k Q e a H
  | .blk id :: k, Q => fun e a H => match e with
    | .exit i => if i = id then stk C k Q .normal a H else stk C k Q (.exit i) a H
    | e => stk C k Q e a H
  | .cut J :: k, Q => fun e a H => match e with
    | .normal => J a H
    | e => stk C k Q e a H
def go (C : (Nat → List AV → AHeap → (AV → AHeap → Prop) → Prop)) (c : ACode) (k : List Fr) (a : List AV) (H : AHeap) (Q : (AExit → List AV → AHeap → Prop)) : Prop := awp C c (stk C k Q) a H
def nxt (C : (Nat → List AV → AHeap → (AV → AHeap → Prop) → Prop)) (k : List Fr) (a : List AV) (H : AHeap) (Q : (AExit → List AV → AHeap → Prop)) : Prop := stk C k Q .normal a H
def leave (C : (Nat → List AV → AHeap → (AV → AHeap → Prop) → Prop)) (i : Nat) (k : List Fr) (a : List AV) (H : AHeap) (Q : (AExit → List AV → AHeap → Prop)) : Prop := stk C k Q (.exit i) a H
def rtn (C : (Nat → List AV → AHeap → (AV → AHeap → Prop) → Prop)) (k : List Fr) (a : List AV) (H : AHeap) (Q : (AExit → List AV → AHeap → Prop)) : Prop := stk C k Q .ret a H
def rgn (C : (Nat → List AV → AHeap → (AV → AHeap → Prop) → Prop)) (ops : List AOper) (k : List Fr) (a : List AV) (H : AHeap) (Q : (AExit → List AV → AHeap → Prop)) : Prop := aops C ops a H fun a H => nxt C k a H Q
def rgY (C : (Nat → List AV → AHeap → (AV → AHeap → Prop) → Prop)) (l : List AOper) (k : List Fr) (d : Option Nat) (y : Option AV) (a : List AV) (H : AHeap) (Q : (AExit → List AV → AHeap → Prop)) : Prop :=
  match y with
  | some y => rgn C l k (aput a d y) H Q
  | none => False
def rgH (C : (Nat → List AV → AHeap → (AV → AHeap → Prop) → Prop)) (l : List AOper) (k : List Fr) (d : Option Nat) (y : Option AHeap) (a : List AV) (Q : (AExit → List AV → AHeap → Prop)) : Prop :=
  match y with
  | some H => rgn C l k (aput a d .top) H Q
  | none => False
def rgP (C : (Nat → List AV → AHeap → (AV → AHeap → Prop) → Prop)) (l : List AOper) (k : List Fr) (d : Option Nat) (y : Option (AV × AHeap)) (a : List AV) (Q : (AExit → List AV → AHeap → Prop)) : Prop :=
  match y with
  | some p => rgn C l k (aput a d p.1) p.2 Q
  | none => False
def retTo (C : (Nat → List AV → AHeap → (AV → AHeap → Prop) → Prop)) (l : List AOper) (k : List Fr) (d : Option Nat) (a : List AV) (Q : (AExit → List AV → AHeap → Prop)) : AV → AHeap → Prop := fun y H => rgn C l k (aput a d y) H Q
def qcl (C : (Nat → List AV → AHeap → (AV → AHeap → Prop) → Prop)) (f : Nat) (args : List AV) (l : List AOper) (k : List Fr) (d : Option Nat) (a : List AV) (H : AHeap) (Q : (AExit → List AV → AHeap → Prop)) : Prop :=
  ∃ y, C f args H (fun y' H' => y' = y ∧ H' = H) ∧ rgn C l k (aput a d y) H Q
def qclV (C : (Nat → List AV → AHeap → (AV → AHeap → Prop) → Prop)) (x : AV) (args : List AV) (l : List AOper) (k : List Fr) (d : Option Nat) (a : List AV) (H : AHeap) (Q : (AExit → List AV → AHeap → Prop)) : Prop :=
  match x with
  | .func (.func f) fs cs => ∃ y, C f (fs ++ args ++ cs) H (fun y' H' => y' = y ∧ H' = H) ∧ rgn C l k (aput a d y) H Q
  | _ => False
def rgV (C : (Nat → List AV → AHeap → (AV → AHeap → Prop) → Prop)) (l : List AOper) (k : List Fr) (d : Option Nat) (x : AV) (args : List AV) (a : List AV) (H : AHeap) (Q : (AExit → List AV → AHeap → Prop)) : Prop :=
  match x with
  | .func (.func f) fs cs => C f (fs ++ args ++ cs) H (retTo C l k d a Q)
  | _ => False
def grd (C : (Nat → List AV → AHeap → (AV → AHeap → Prop) → Prop)) (op : AOp) (l : List AOper) (k : List Fr) (d : Option Nat) (want : Bool) (x : AV) (a : List AV) (H : AHeap) (Q : (AExit → List AV → AHeap → Prop)) : Prop :=
  match gdv x want with
  | some b => if b = true then rgn C (⟨d, op, none⟩ :: l) k a H Q else rgn C l k (aput a d (.tup [])) H Q
  | none => False
def cnd (C : (Nat → List AV → AHeap → (AV → AHeap → Prop) → Prop)) (x : AV) (c1 c2 : ACode) (k : List Fr) (a : List AV) (H : AHeap) (Q : (AExit → List AV → AHeap → Prop)) : Prop :=
  match x with
  | .bool b => if b = true then go C c1 k a H Q else go C c2 k a H Q
  | _ => False
def litAll (sz : Nat) : List AV → Bool
  | [] => true
  | x :: l => x.flat && x.cells.length == sz && litAll sz l
def amk (e : TypeId) (sz bytes : Nat) (z : List AV) (H : AHeap) : AV → Option (AV × AHeap)
  | .int .i64 n => if 0 ≤ n ∧ n.toNat * bytes ≤ 281474976710656 then some (.wr H.next 0 0 n.toNat sz, H.push (.row e 0 (List.replicate n.toNat z).flatten)) else none
  | _ => none
def as2b (e : TypeId) (H : AHeap) : AV → Option (AV × AHeap)
  | .str s => if s.size ≤ 9223372036854775807 then some (.wr H.next 0 0 s.size 1, H.push (.row e 0 (s.data.toList.map byteV))) else none
  | _ => none
section
variable {C : (Nat → List AV → AHeap → (AV → AHeap → Prop) → Prop)} {k : List Fr} {a : List AV} {H : AHeap} {Q : (AExit → List AV → AHeap → Prop)} {l : List AOper} {d : Option Nat}
theorem go_seq (x y : ACode) : go C (.seq x y) k a H Q = go C x (.code y :: k) a H Q := propext Iff.rfl
theorem go_skip : go C .skip k a H Q = nxt C k a H Q := propext Iff.rfl
theorem go_region (ops : List AOper) : go C (.region ops) k a H Q = rgn C ops k a H Q := propext Iff.rfl
theorem go_regionN (n : Nat) (ops : List AOper) : go C (.regionN n ops) k a H Q = (n ≤ a.length ∧ rgn C ops k a H Q) := propext Iff.rfl
theorem go_cond (c : AX) (x y : ACode) : go C (.cond c x y) k a H Q = cnd C (c.ev a) x y k a H Q := propext Iff.rfl
theorem go_block (id : Nat) (c : ACode) : go C (.block id c) k a H Q = go C c (.blk id :: k) a H Q := propext Iff.rfl
theorem go_exit (i : Nat) : go C (.exit i) k a H Q = leave C i k a H Q := propext Iff.rfl
theorem go_ret : go C .ret k a H Q = rtn C k a H Q := propext Iff.rfl
theorem nxt_nil : nxt C [] a H Q = Q .normal a H := propext Iff.rfl
theorem nxt_code (y : ACode) : nxt C (.code y :: k) a H Q = go C y k a H Q := propext Iff.rfl
theorem nxt_blk (i : Nat) : nxt C (.blk i :: k) a H Q = nxt C k a H Q := propext Iff.rfl
theorem nxt_cut (J : List AV → AHeap → Prop) : nxt C (.cut J :: k) a H Q = J a H := propext Iff.rfl
theorem leave_nil (i : Nat) : leave C i [] a H Q = Q (.exit i) a H := propext Iff.rfl
theorem leave_code (i : Nat) (y : ACode) : leave C i (.code y :: k) a H Q = leave C i k a H Q := propext Iff.rfl
theorem leave_cut (i : Nat) (J : List AV → AHeap → Prop) : leave C i (.cut J :: k) a H Q = leave C i k a H Q := propext Iff.rfl
theorem leave_blk (i j : Nat) : leave C i (.blk j :: k) a H Q = if i = j then nxt C k a H Q else leave C i k a H Q := propext Iff.rfl
theorem rtn_nil : rtn C [] a H Q = Q .ret a H := propext Iff.rfl
theorem rtn_code (y : ACode) : rtn C (.code y :: k) a H Q = rtn C k a H Q := propext Iff.rfl
theorem rtn_blk (i : Nat) : rtn C (.blk i :: k) a H Q = rtn C k a H Q := propext Iff.rfl
theorem rtn_cut (J : List AV → AHeap → Prop) : rtn C (.cut J :: k) a H Q = rtn C k a H Q := propext Iff.rfl
theorem cnd_bool (b : Bool) (x y : ACode) : cnd C (.bool b) x y k a H Q = if b = true then go C x k a H Q else go C y k a H Q := propext Iff.rfl
theorem rgn_nil : rgn C [] k a H Q = nxt C k a H Q := propext Iff.rfl
theorem rgY_some (y : AV) : rgY C l k d (some y) a H Q = rgn C l k (aput a d y) H Q := propext Iff.rfl
theorem rgY_none : rgY C l k d none a H Q = False := propext Iff.rfl
theorem rgH_some (H' : AHeap) : rgH C l k d (some H') a Q = rgn C l k (aput a d .top) H' Q := propext Iff.rfl
theorem rgP_some (y : AV) (H' : AHeap) : rgP C l k d (some (y, H')) a Q = rgn C l k (aput a d y) H' Q := propext Iff.rfl
theorem retTo_is (y : AV) : retTo C l k d a Q y H = rgn C l k (aput a d y) H Q := propext Iff.rfl
theorem rgV_func (f : Nat) (fs cs args : List AV) : rgV C l k d (.func (.func f) fs cs) args a H Q = C f (fs ++ args ++ cs) H (retTo C l k d a Q) := propext Iff.rfl
theorem grd_tt (op : AOp) : grd C op l k d true (.bool true) a H Q = rgn C (⟨d, op, none⟩ :: l) k a H Q := propext Iff.rfl
theorem grd_ff (op : AOp) : grd C op l k d false (.bool false) a H Q = rgn C (⟨d, op, none⟩ :: l) k a H Q := propext Iff.rfl
theorem grd_und (op : AOp) (want : Bool) : grd C op l k d want (.tup []) a H Q = rgn C l k (aput a d (.tup [])) H Q := propext Iff.rfl
theorem grd_tf (op : AOp) : grd C op l k d true (.bool false) a H Q = rgn C l k (aput a d (.tup [])) H Q := propext Iff.rfl
theorem grd_ft (op : AOp) : grd C op l k d false (.bool true) a H Q = rgn C l k (aput a d (.tup [])) H Q := propext Iff.rfl
theorem cnd_t (x y : ACode) : cnd C (.bool true) x y k a H Q = go C x k a H Q := propext Iff.rfl
theorem cnd_f (x y : ACode) : cnd C (.bool false) x y k a H Q = go C y k a H Q := propext Iff.rfl
theorem rgn_q (q : QOp) : rgn C (⟨d, .q q, none⟩ :: l) k a H Q = rgY C l k d (aq H (AX.ev a) q) a H Q := by
  apply propext
  show (∃ y, aq H (AX.ev a) q = some y ∧ rgn C l k (aput a d y) H Q) ↔ _
  cases h : aq H (AX.ev a) q with
  | none => simp [rgY]
  | some y => simp [rgY]
theorem rgn_alloc (e : TypeId) (z : List AV) : rgn C (⟨d, .s (.alloc e z), none⟩ :: l) k a H Q = rgn C l k (aput a d (.ptr H.next 0 0)) (H.push (.row e 0 z)) Q := propext Iff.rfl
theorem rgn_box (e : TypeId) (x : AX) : rgn C (⟨d, .s (.box e x), none⟩ :: l) k a H Q = ((x.ev a).flat = true ∧ rgn C l k (aput a d (.ptr H.next 0 0)) (H.push (.row e 0 (x.ev a).cells)) Q) := propext Iff.rfl
theorem rgn_store (n : Nat) (x v : AX) : rgn C (⟨d, .s (.store n x v), none⟩ :: l) k a H Q = rgH C l k d (astore H n (v.ev a) (x.ev a)) a Q := by
  apply propext
  show (∃ H', astore H n (v.ev a) (x.ev a) = some H' ∧ rgn C l k (aput a d .top) H' Q) ↔ _
  cases h : astore H n (v.ev a) (x.ev a) with
  | none => simp [rgH]
  | some y => simp [rgH]
theorem litAll_is (sz : Nat) : ∀ (l : List AV), litAll sz l = true ↔ ∀ p ∈ l, p.flat = true ∧ p.cells.length = sz
  | [] => by simp [litAll]
  | x :: l => by
    simp only [litAll, Bool.and_eq_true, beq_iff_eq, litAll_is sz l, List.mem_cons, forall_eq_or_imp]
def litCells : List AV → List AV
  | [] => []
  | x :: l => x.cells ++ litCells l
theorem litCells_nil : litCells [] = [] := rfl
theorem litCells_cons (x : AV) (l : List AV) : litCells (x :: l) = x.cells ++ litCells l := rfl
theorem litCells_is : ∀ (l : List AV), litCells l = l.flatMap AV.cells
  | [] => rfl
  | x :: l => by rw [litCells_cons, litCells_is l, List.flatMap_cons]
theorem rgn_litw (e : TypeId) (sz : Nat) (ps : List AX) : rgn C (⟨d, .s (.litw e sz ps), none⟩ :: l) k a H Q = (litAll sz (ps.map (AX.ev a)) = true ∧ rgn C l k (aput a d (.wr H.next 0 0 ps.length sz)) (H.push (.row e 0 (litCells (ps.map (AX.ev a))))) Q) := by
  rw [litAll_is, litCells_is]
  apply propext
  show ((∀ p ∈ ps, _) ∧ _) ↔ _
  simp only [List.mem_map, forall_exists_index, and_imp, forall_apply_eq_imp_iff₂]
  rfl
theorem rgn_lit (e : TypeId) (sz : Nat) (ps : List AX) : rgn C (⟨d, .s (.lit e sz ps), none⟩ :: l) k a H Q = (litAll sz (ps.map (AX.ev a)) = true ∧ rgn C l k (aput a d (.imm sz (ps.map (AX.ev a)))) H Q) := by
  rw [litAll_is]
  apply propext
  show ((∀ p ∈ ps, _) ∧ _) ↔ _
  simp only [List.mem_map, forall_exists_index, and_imp, forall_apply_eq_imp_iff₂]
  rfl
theorem rgn_app (e : TypeId) (sz b : Nat) (s x : AX) : rgn C (⟨d, .s (.app e sz b s x), none⟩ :: l) k a H Q = rgP C l k d (aapp e sz b H (s.ev a) (x.ev a)) a Q := by
  apply propext
  show (∃ y H', aapp e sz b H (s.ev a) (x.ev a) = some (y, H') ∧ rgn C l k (aput a d y) H' Q) ↔ _
  cases h : aapp e sz b H (s.ev a) (x.ev a) with
  | none => simp [rgP]
  | some y =>
    obtain ⟨y, H'⟩ := y
    exact ⟨fun ⟨y2, H2, h1, h2⟩ => by cases h1; exact h2, fun h => ⟨y, H', rfl, h⟩⟩
theorem rgn_copy (sz : Nat) (s x : AX) : rgn C (⟨d, .s (.copy sz s x), none⟩ :: l) k a H Q = rgP C l k d (acopy sz H (s.ev a) (x.ev a)) a Q := by
  apply propext
  show (∃ y H', acopy sz H (s.ev a) (x.ev a) = some (y, H') ∧ rgn C l k (aput a d y) H' Q) ↔ _
  cases h : acopy sz H (s.ev a) (x.ev a) with
  | none => simp [rgP]
  | some y =>
    obtain ⟨y, H'⟩ := y
    exact ⟨fun ⟨y2, H2, h1, h2⟩ => by cases h1; exact h2, fun h => ⟨y, H', rfl, h⟩⟩
theorem rgn_mk (e : TypeId) (sz b : Nat) (z : List AV) (n : AX) : rgn C (⟨d, .s (.mk e sz b z n), none⟩ :: l) k a H Q = rgP C l k d (amk e sz b z H (n.ev a)) a Q := by
  apply propext
  show (∃ m : Nat, n.ev a = .int .i64 m ∧ m * b ≤ 281474976710656 ∧ rgn C l k (aput a d (.wr H.next 0 0 m sz)) (H.push (.row e 0 (List.replicate m z).flatten)) Q) ↔ _
  constructor
  · rintro ⟨m, h1, h2, h3⟩
    simp [amk, h1, h2, rgP, h3]
  · intro h
    unfold amk rgP at h
    split at h <;> (try (exact h.elim))
    rename_i p hp
    split at hp <;> (try (cases hp; done))
    rename_i n' hn
    split at hp <;> (try (cases hp; done))
    rename_i hc
    obtain rfl := Option.some.inj hp
    exact ⟨n'.toNat, by rw [hn, Int.toNat_of_nonneg hc.1], hc.2, h⟩
theorem rgn_s2b (e : TypeId) (x : AX) : rgn C (⟨d, .s (.s2b e x), none⟩ :: l) k a H Q = rgP C l k d (as2b e H (x.ev a)) a Q := by
  apply propext
  show (∃ s, x.ev a = .str s ∧ s.size ≤ 9223372036854775807 ∧ rgn C l k (aput a d (.wr H.next 0 0 s.size 1)) (H.push (.row e 0 (s.data.toList.map fun b => .int .u8 (b.toNat : Int)))) Q) ↔ _
  constructor
  · rintro ⟨s, h1, h2, h3⟩
    rw [h1]
    simp only [as2b, if_pos h2]
    exact h3
  · intro h
    unfold as2b rgP at h
    split at h <;> (try (exact h.elim))
    rename_i p hp
    split at hp <;> (try (cases hp; done))
    rename_i s hs
    split at hp <;> (try (cases hp; done))
    rename_i hc
    obtain rfl := Option.some.inj hp
    exact ⟨s, hs, hc, h⟩
theorem rgn_call (f : Nat) (args : List AX) : rgn C (⟨d, .s (.call f args), none⟩ :: l) k a H Q = C f (args.map (AX.ev a)) H (retTo C l k d a Q) := propext Iff.rfl
theorem rgn_put (e : TypeId) (n : Nat) (x : AX) : rgn C (⟨d, .s (.put e n x), none⟩ :: l) k a H Q = (((x.ev a).flat = true ∧ (x.ev a).cells.all AV.one = true ∧ (x.ev a).cells.length = n) ∧ rgn C l k (aput a d (.ptr H.next 0 0)) (H.push (.row e 0 (x.ev a).cells)) Q) := propext Iff.rfl
theorem rgn_slice3 (sz : Nat) (x hi mx : AX) : rgn C (⟨d, .s (.slice3 sz x hi mx), none⟩ :: l) k a H Q = rgY C l k d (aslice3 sz (x.ev a) (hi.ev a) (mx.ev a)) a H Q := by
  apply propext
  show (∃ y, aslice3 sz (x.ev a) (hi.ev a) (mx.ev a) = some y ∧ rgn C l k (aput a d y) H Q) ↔ _
  cases h : aslice3 sz (x.ev a) (hi.ev a) (mx.ev a) with
  | none => simp [rgY]
  | some y => simp [rgY]
theorem rgn_stop : rgn C (⟨d, .s .stop, none⟩ :: l) k a H Q = False := propext Iff.rfl
theorem rgn_mkmap : rgn C (⟨d, .s .mkmap, none⟩ :: l) k a H Q = rgn C l k (aput a d (.map H.next)) (H.push (.map [])) Q := propext Iff.rfl
theorem rgn_lookup (str : Bool) (z : AV) (ok : Bool) (m x : AX) : rgn C (⟨d, .s (.lookup str z ok m x), none⟩ :: l) k a H Q = rgY C l k d (alookup H str z ok (x.ev a) (m.ev a)) a H Q := by
  apply propext
  show (∃ y, alookup H str z ok (x.ev a) (m.ev a) = some y ∧ rgn C l k (aput a d y) H Q) ↔ _
  cases h : alookup H str z ok (x.ev a) (m.ev a) with
  | none => simp [rgY]
  | some y => simp [rgY]
theorem rgn_mapup (str : Bool) (m x v : AX) : rgn C (⟨d, .s (.mapup str m x v), none⟩ :: l) k a H Q = rgH C l k d (amapup H str (x.ev a) (v.ev a) (m.ev a)) a Q := by
  apply propext
  show (∃ H', amapup H str (x.ev a) (v.ev a) (m.ev a) = some H' ∧ rgn C l k (aput a d .top) H' Q) ↔ _
  cases h : amapup H str (x.ev a) (v.ev a) (m.ev a) with
  | none => simp [rgH]
  | some y => simp [rgH]
theorem alookup_nilm (str : Bool) (z : AV) (ok : Bool) (x : AV) : alookup H str z ok x .nilm = some (afound ok false z) := rfl
theorem alookup_map (str : Bool) (z : AV) (ok : Bool) (x : AV) (id : Nat) : alookup H str z ok x (.map id) = (match H.get id with
    | some (.map es) => (match amget str x es with
      | some (some v) => some (afound ok true v)
      | some none => some (afound ok false z)
      | none => none)
    | _ => none) := rfl
theorem amapup_map (str : Bool) (x v : AV) (id : Nat) : amapup H str x v (.map id) = (match H.get id with
    | some (.map es) => (amset str x v es).map fun es => H.set id (.map es)
    | _ => none) := rfl
theorem afound_ok (b : Bool) (v : AV) : afound true b v = .tup [v, .bool b] := rfl
theorem afound_no (b : Bool) (v : AV) : afound false b v = v := rfl
theorem rgn_callv (x : AX) (args : List AX) : rgn C (⟨d, .s (.callv x args), none⟩ :: l) k a H Q = rgV C l k d (x.ev a) (args.map (AX.ev a)) a H Q := propext Iff.rfl
theorem rgn_c (f : Nat) (args : List AX) : rgn C (⟨d, .c (.fn f) args, none⟩ :: l) k a H Q = qcl C f (args.map (AX.ev a)) l k d a H Q := propext Iff.rfl
theorem rgn_cv (x : AX) (args : List AX) : rgn C (⟨d, .c (.val x) args, none⟩ :: l) k a H Q = qclV C (x.ev a) (args.map (AX.ev a)) l k d a H Q := by
  apply propext
  show (∃ y, ccall C (AX.ev a) (.val x) args H (fun y' H' => y' = y ∧ H' = H) ∧ rgn C l k (aput a d y) H Q) ↔ _
  simp only [ccall]
  generalize AX.ev a x = v
  cases v with
  | func fn fs cs =>
    cases fn with
    | func f => exact Iff.rfl
    | _ => simp [qclV]
  | _ => simp [qclV]
theorem qclV_func (f : Nat) (fs cs args : List AV) : qclV C (.func (.func f) fs cs) args l k d a H Q = qcl C f (fs ++ args ++ cs) l k d a H Q := propext Iff.rfl
theorem rgn_guard (op : AOp) (t : Nat) (want : Bool) : rgn C (⟨d, op, some (t, want)⟩ :: l) k a H Q = grd C op l k d want (a.getD t .top) a H Q := by
  have hq : rgn C (⟨d, op, some (t, want)⟩ :: l) k a H Q = (match gdv (a.getD t .top) want with
    | some b => agop C op b a H fun y H' => rgn C l k (aput a d y) H' Q
    | none => False) := rfl
  rw [hq]
  unfold grd
  generalize gdv (a.getD t .top) want = x
  cases x <;> try rfl
  rename_i b
  simp only
  by_cases hb : b = true
  · subst hb
    rw [if_pos rfl]
    have hz : rgn C (⟨d, op, none⟩ :: l) k a H Q = aop C op a H fun y H' => rgn C l k (aput a d y) H' Q := rfl
    rw [hz]
    cases op with
    | q q =>
      apply propext
      simp only [agop, aop, if_true]
      cases h : aq H (AX.ev a) q with
      | none => simp
      | some y => simp
    | s s => rfl
    | c f args =>
      apply propext
      simp only [agop, aop, if_true, forall_const, true_implies]
  · rw [if_neg hb, show b = false by simpa using hb]
    cases op with
    | q q =>
      apply propext
      simp [agop]
    | s s => rfl
    | c f args =>
      apply propext
      simp only [agop, Bool.false_eq_true, if_false, false_implies, true_and]
      exact ⟨fun ⟨_, h⟩ => h, fun h => ⟨.top, h⟩⟩
theorem awp_mono (hC : Mono C) : ∀ (c : ACode) (Q Q' : (AExit → List AV → AHeap → Prop)) (a : List AV) (H : AHeap), (∀ e a H, Q e a H → Q' e a H) → awp C c Q a H → awp C c Q' a H := by
  have hops : ∀ (l : List AOper) (K K' : List AV → AHeap → Prop) (a : List AV) (H : AHeap), (∀ a H, K a H → K' a H) → aops C l a H K → aops C l a H K' := by
    intro l
    induction l with
    | nil => exact fun K K' a H hk h => hk _ _ h
    | cons o l ih => exact fun K K' a H hk h => astep_mono hC (fun a' H' q => ih K K' a' H' hk q) h
  intro c
  induction c with
  | skip => exact fun Q Q' a H hq h => hq _ _ _ h
  | region ops => exact fun Q Q' a H hq h => hops ops _ _ a H (fun a H q => hq _ _ _ q) h
  | regionN n ops => exact fun Q Q' a H hq h => ⟨h.1, hops ops _ _ a H (fun a H q => hq _ _ _ q) h.2⟩
  | seq x y ihx ihy =>
    refine fun Q Q' a H hq h => ihx _ _ a H (fun e a H q => ?_) h
    cases e with
    | normal => exact ihy _ _ a H hq q
    | exit i => exact hq _ _ _ q
    | ret => exact hq _ _ _ q
  | cond c x y ihx ihy =>
    intro Q Q' a H hq h
    simp only [awp] at h ⊢
    split at h <;> (try (exact h.elim))
    rename_i b hb
    cases b with
    | true => rw [if_pos rfl] at h ⊢; exact ihx _ _ a H hq h
    | false => rw [if_neg (by simp)] at h ⊢; exact ihy _ _ a H hq h
  | block id c ih =>
    refine fun Q Q' a H hq h => ih _ _ a H (fun e a H q => ?_) h
    cases e with
    | normal => exact hq _ _ _ q
    | exit i =>
      simp only at q ⊢
      split at q
      · rename_i hi; rw [if_pos hi]; exact hq _ _ _ q
      · rename_i hi; rw [if_neg hi]; exact hq _ _ _ q
    | ret => exact hq _ _ _ q
  | loop c ih =>
    rintro Q Q' a H hq ⟨I, μ, h1, h2⟩
    refine ⟨I, μ, h1, fun a H hi => ih _ _ a H (fun e a' H' q => ?_) (h2 a H hi)⟩
    cases e with
    | normal => exact q
    | exit i => exact hq _ _ _ q
    | ret => exact hq _ _ _ q
  | exit i => exact fun Q Q' a H hq h => hq _ _ _ h
  | ret => exact fun Q Q' a H hq h => hq _ _ _ h
/-- A loop: its rounds' states are told by what σ says. -/
theorem go_loop (hC : Mono C) {σ : Type} (st : σ → List AV) (hh : σ → AHeap) (ok : σ → Prop) (μ : σ → Nat) (s0 : σ) {c : ACode} (h0 : Forget a (st s0)) (hH : H = hh s0) (hok : ok s0)
    (round : ∀ s, ok s → ∀ J : List AV → AHeap → Prop, (∀ s' a', ok s' → μ s' < μ s → Forget a' (st s') → J a' (hh s')) → go C c (.cut J :: k) (st s) (hh s) Q) : go C (.loop c) k a H Q := by
  subst hH
  refine ⟨fun a H => ∃ n s, ok s ∧ a = st s ∧ H = hh s ∧ μ s = n, fun a H => leastOf (fun n => ∃ s, ok s ∧ a = st s ∧ H = hh s ∧ μ s = n), ⟨st s0, h0, μ s0, s0, hok, rfl, rfl, rfl⟩, fun a1 H1 hI => ?_⟩
  obtain ⟨⟨s, hs, rfl, rfl, hn⟩, hmin⟩ := leastOf_spec hI
  refine awp_mono hC _ _ _ _ _ (fun e a' H' q => ?_) (round s hs (fun a' H' => ∃ s', ok s' ∧ μ s' < μ s ∧ Forget a' (st s') ∧ H' = hh s') (fun s' a' h1 h2 h3 => ⟨s', h1, h2, h3, rfl⟩))
  cases e with
  | normal =>
    obtain ⟨s', h1, h2, h3, rfl⟩ := q
    refine ⟨st s', h3, ⟨μ s', s', h1, rfl, rfl, rfl⟩, ?_⟩
    show leastOf (fun n => ∃ s_1, ok s_1 ∧ st s' = st s_1 ∧ hh s' = hh s_1 ∧ μ s_1 = n) < leastOf (fun n => ∃ s_1, ok s_1 ∧ st s = st s_1 ∧ hh s = hh s_1 ∧ μ s_1 = n)
    rw [← hn]
    exact Nat.lt_of_le_of_lt ((leastOf_spec ⟨μ s', s', h1, rfl, rfl, rfl⟩).2 _ ⟨s', h1, rfl, rfl, rfl⟩) h2
  | exit i => exact q
  | ret => exact q
/-- A loop of few rounds, gone through one by one. -/
def rnds (C : (Nat → List AV → AHeap → (AV → AHeap → Prop) → Prop)) (c : ACode) (k : List Fr) (Q : (AExit → List AV → AHeap → Prop)) : Nat → List AV → AHeap → Prop
  | 0, _, _ => False
  | n + 1, a, H => go C c (.cut (rnds C c k Q n) :: k) a H Q
theorem rnds_succ (c : ACode) (n : Nat) : rnds C c k Q (n + 1) a H = go C c (.cut (rnds C c k Q n) :: k) a H Q := propext Iff.rfl
theorem go_rounds (hC : Mono C) {c : ACode} (n : Nat) (h : rnds C c k Q n a H) : go C (.loop c) k a H Q := by
  refine ⟨fun a H => ∃ n, rnds C c k Q n a H, fun a H => leastOf (fun n => rnds C c k Q n a H), ⟨a, ⟨rfl, fun i y z h1 h2 => by rw [h1] at h2; exact .inl (Option.some.inj h2).symm⟩, n, h⟩, fun a1 H1 hI => ?_⟩
  obtain ⟨hs, hmin⟩ := leastOf_spec hI
  generalize hn : leastOf (fun n => rnds C c k Q n a1 H1) = m at hs
  cases m with
  | zero => exact hs.elim
  | succ m =>
    refine awp_mono hC _ _ _ _ _ (fun e a' H' q => ?_) hs
    cases e with
    | normal =>
      refine ⟨a', ⟨rfl, fun i y z h1 h2 => by rw [h1] at h2; exact .inl (Option.some.inj h2).symm⟩, ⟨m, q⟩, ?_⟩
      show leastOf (fun n => rnds C c k Q n a' H') < leastOf (fun n => rnds C c k Q n a1 H1)
      rw [hn]
      exact Nat.lt_of_le_of_lt ((leastOf_spec ⟨m, q⟩).2 _ q) (Nat.lt_succ_self m)
    | exit i => exact q
    | ret => exact q
/-- A place where ways meet: what holds there. -/
theorem go_cut (hC : Mono C) (J : List AV → AHeap → Prop) {x y : ACode} (hx : go C x (.cut J :: k) a H Q) (hy : ∀ a H, J a H → go C y k a H Q) : go C x (.code y :: k) a H Q := by
  refine awp_mono hC _ _ _ _ _ (fun e a' H' q => ?_) hx
  cases e with
  | normal => exact hy _ _ q
  | exit i => exact q
  | ret => exact q
theorem cnd_split {b : Bool} {x y : ACode} (h1 : b = true → go C x k a H Q) (h2 : b = false → go C y k a H Q) : cnd C (.bool b) x y k a H Q := by
  cases b with
  | true => rw [cnd_bool, if_pos rfl]; exact h1 rfl
  | false => rw [cnd_bool, if_neg (by simp)]; exact h2 rfl
theorem grd_split {op : AOp} {want b : Bool} (h1 : b = true → grd C op l k d want (.bool true) a H Q) (h2 : b = false → grd C op l k d want (.bool false) a H Q) : grd C op l k d want (.bool b) a H Q := by
  cases b with
  | true => exact h1 rfl
  | false => exact h2 rfl
end
/-! ### rows of one's own -/
def hp (H : AHeap) (l : List AObj) : AHeap where
  next := H.next + l.length
  get i := if i < H.next then H.get i else l[i - H.next]?
  wf i hi := by
    rw [if_neg (by omega)]
    exact List.getElem?_eq_none (by omega)
section
variable (H : AHeap) (l m : List AObj) (o : AObj) (i : Nat)
theorem hp_nil : hp H [] = H := by
  apply AHeap.ext'
  · rfl
  · intro i
    simp only [hp]
    split
    · rfl
    · exact (H.wf i (by omega)).symm
theorem hp_next : (hp H l).next = H.next + l.length := rfl
theorem hp_push : (hp H l).push o = hp H (l ++ [o]) := by
  apply AHeap.ext'
  · simp [hp, AHeap.push, Nat.add_assoc]
  · intro i
    simp only [hp, AHeap.push]
    by_cases h1 : i < H.next
    · simp [h1, show i ≠ H.next + l.length by omega]
    · by_cases h2 : i = H.next + l.length
      · subst h2; simp; omega
      · simp only [h1, h2, if_false]
        by_cases h3 : i - H.next < l.length
        · rw [List.getElem?_append_left h3]
        · rw [List.getElem?_append_right (by omega), List.getElem?_eq_none (by omega), List.getElem?_eq_none (by simp; omega)]
theorem hp_get : (hp H l).get (H.next + i) = l[i]? := by simp [hp]; omega
theorem hp_get_old (h : i < H.next) : (hp H l).get i = H.get i := by simp [hp, h]
theorem hp_set : (hp H l).set (H.next + i) o = hp H (l.set i o) := by
  apply AHeap.ext'
  · simp [hp, AHeap.set]
  · intro j
    simp only [hp, AHeap.set]
    by_cases h1 : j < H.next
    · simp [h1, show j ≠ H.next + i by omega]
    · by_cases h2 : j = H.next + i
      · subst h2
        simp only [Nat.add_lt_add_iff_left, true_and, Nat.not_lt.2 (Nat.le_add_right _ _), if_false, Nat.add_sub_cancel_left]
        by_cases h3 : i < l.length
        · rw [if_pos h3, List.getElem?_set_self h3]
        · rw [if_neg h3, List.getElem?_eq_none (by omega), List.getElem?_eq_none (by simp; omega)]
      · simp only [h1, h2, false_and, if_false]
        rw [List.getElem?_set_ne (by omega)]
theorem hp_set_old (h : i < H.next) : (hp H l).set i o = hp (H.set i o) l := by
  apply AHeap.ext'
  · simp [hp, AHeap.set]
  · intro j
    simp only [hp, AHeap.set]
    by_cases h1 : j < H.next
    · by_cases h2 : j = i
      · subst h2; simp [h1, show j < H.next + l.length by omega]
      · simp [h1, h2]
    · simp [h1, show j ≠ i by omega]
theorem hp_trunc : (hp H l).trunc H.next = H := by
  apply AHeap.ext'
  · simp [hp, AHeap.trunc]
  · intro j
    simp only [hp, AHeap.trunc]
    split
    · rfl
    · exact (H.wf j (by omega)).symm
theorem hp_hp : hp (hp H l) m = hp H (l ++ m) := by
  apply AHeap.ext'
  · simp [hp, Nat.add_assoc]
  · intro j
    simp only [hp]
    by_cases h1 : j < H.next
    · simp [h1, show j < H.next + l.length by omega]
    · by_cases h2 : j < H.next + l.length
      · simp only [h1, h2, if_true, if_false]
        rw [List.getElem?_append_left (by omega)]
      · simp only [h1, h2, if_false]
        rw [List.getElem?_append_right (by omega), Nat.sub_sub]
theorem hp_within (hs : H.within H.next) : (hp H l).within H.next := by
  intro id o h1 h2
  rw [hp_get_old _ _ _ h1] at h2
  exact hs id o h1 h2
end
/-! ### from calls, and to them -/
section
variable {P : Program} {H : AHeap} {rs : List RV} {n : Nat} {K : AV → AHeap → Prop} {a : List AV}
/-- Slots of which nothing is known. -/
def tops : Nat → List AV
  | 0 => []
  | n + 1 => .top :: tops n
theorem tops_zero : tops 0 = [] := rfl
theorem tops_succ (n : Nat) : tops (n + 1) = .top :: tops n := rfl
theorem tops_is : ∀ n, tops n = List.replicate n .top
  | 0 => rfl
  | n + 1 => by rw [tops_succ, tops_is n]; rfl
theorem acalls_go (hm : P.follows .mixedOrders = true) {f m : Nat} {ac : ACode} (hT : Told P f m ac rs) {args : List AV}
    (h : H.within H.next → (∀ y ∈ args, y.under H.next) → go (ACalls P) ac [] (args ++ tops (m - args.length)) (hp H []) (APost H.next rs K)) : ACalls P f args H K := by
  refine acalls_of hm hT (fun h1 h2 => ?_)
  have := h h1 h2
  rw [hp_nil, tops_is] at this
  exact this
def retY (n : Nat) (K : AV → AHeap → Prop) (y : Option AV) (H : AHeap) : Prop :=
  match y with
  | some y => ARet n K y H
  | none => False
theorem retY_some (y : AV) : retY n K (some y) H = ARet n K y H := propext Iff.rfl
theorem post_ret : APost n rs K .ret a H = retY n K (ares H a rs) H := by
  apply propext
  show (∃ y, ares H a rs = some y ∧ ARet n K y H) ↔ _
  cases h : ares H a rs with
  | none => simp [retY]
  | some y => simp [retY]
theorem post_normal : APost n rs K .normal a H = retY n K (ares H a rs) H := post_ret
/-- A result that leads to no row of one's own. -/
theorem aret_plain {l : List AObj} {y : AV} (hs : H.within H.next) (hy : y.under H.next) (hk : K y H) : ARet H.next K y (hp H l) :=
  ⟨hp H l, y, H.next, .refl _ _, Nat.le_refl _, hy, hp_within _ _ hs, by rw [hp_trunc]; exact hk⟩
theorem forget_nil : Forget [] [] := ⟨rfl, fun i y z h => by simp at h⟩
theorem forget_keep {y : AV} {l m : List AV} (h : Forget l m) : Forget (y :: l) (y :: m) :=
  ⟨by simp [h.1], fun i u z h1 h2 => by
    cases i with
    | zero => simp at h1 h2; subst h1; subst h2; exact .inl rfl
    | succ i => exact h.2 i u z (by simpa using h1) (by simpa using h2)⟩
theorem forget_top {y : AV} {l m : List AV} (h : Forget l m) : Forget (y :: l) (.top :: m) :=
  ⟨by simp [h.1], fun i u z h1 h2 => by
    cases i with
    | zero => simp at h1 h2; subst h1; subst h2; exact .inr rfl
    | succ i => exact h.2 i u z (by simpa using h1) (by simpa using h2)⟩
end
end Go.Proofs.Ytblflecalomgfaa.AL
