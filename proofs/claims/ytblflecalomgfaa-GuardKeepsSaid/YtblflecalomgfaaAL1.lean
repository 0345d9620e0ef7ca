/- Operations that leave memory alone: what they answer, told of the plain picture; and that the machine's operations answer so. -/
import Derived.Test.YtblflecalomgfaaAL0
import Derived.Laws.Strings
import Derived.Laws.Cells
import Derived.Laws.Slices
import Derived.Laws.Tables
import Derived.Laws.Pointers
import Derived.Laws.BytesString
import Derived.Laws.Build
set_option linter.unusedVariables false
set_option linter.unusedSimpArgs false
namespace Go.Proofs.Ytblflecalomgfaa.AL
open Go
inductive AX where
  | tmp (t : Nat)
  | const (v : AV)
  deriving Inhabited
def AX.ev (a : List AV) : AX → AV
  | .tmp t => a.getD t .top
  | .const v => v
def trV : Value → Option AV
  | .bool b => some (.bool b)
  | .int k n => some (.int k n)
  | .string s => some (.str s)
  | .pointer none => some .nilp
  | .slice none 0 0 => some .nils
  | .nilFunc => some .nilf
  | .map none => some .nilm
  | .nilIface => some .nili
  | _ => none
def trX : Operand → Option AX
  | .tmp t => some (.tmp t)
  | .const v => (trV v).map .const
  | .func f => some (.const (.func (.func f) [] []))
  | .global _ => none
/-- The frame's slots, told. -/
structure RepAct (g : Ghost) (w : World) (act : Act) (a : List AV) : Prop where
  defers : act.defers = []
  size : act.tmps.size = a.length
  rep : ∀ (i : Nat) (v : Value) (y : AV), act.tmps[i]? = some v → a[i]? = some y → Rep g w v y
theorem RepAct.grow {g g' : Ghost} {w w' : World} (h : Grow g w g' w') {act : Act} {a : List AV} (hr : RepAct g w act a) : RepAct g' w' act a :=
  ⟨hr.defers, hr.size, fun i v y h1 h2 => (hr.rep i v y h1 h2).grow h⟩
theorem RepAct.ext {g g' : Ghost} {w w' : World} (h : Ext g w g' w') {act : Act} {a : List AV} (hr : RepAct g w act a) : RepAct g' w' act a :=
  ⟨hr.defers, hr.size, fun i v y h1 h2 => (hr.rep i v y h1 h2).ext h⟩
theorem trV_rep {g : Ghost} {w : World} {v : Value} {y : AV} (h : trV v = some y) : Rep g w v y := by
  unfold trV at h
  split at h <;> (try (cases h; done)) <;> (obtain rfl := Option.some.inj h; constructor)
theorem trX_rep {g : Ghost} {w : World} {act : Act} {a : List AV} (hr : RepAct g w act a) {x : Operand} {x' : AX} (h : trX x = some x') : Rep g w (act.eval x) (x'.ev a) := by
  cases x with
  | tmp t =>
    obtain rfl := Option.some.inj h
    show Rep g w (act.tmps.getD t undef) (a.getD t .top)
    by_cases ht : t < act.tmps.size
    · have h1 : act.tmps[t]? = some act.tmps[t] := Array.getElem?_eq_getElem ht
      have h2 : a[t]? = some (a[t]'(by rw [← hr.size]; exact ht)) := List.getElem?_eq_getElem _
      have := hr.rep t _ _ h1 h2
      rw [Array.getD_eq_getD_getElem?, List.getD_eq_getElem?_getD, h1, h2]
      exact this
    · have hz := hr.size
      have h2 : a[t]? = none := List.getElem?_eq_none (Nat.le_trans (Nat.le_of_eq hz.symm) (Nat.le_of_not_lt ht))
      rw [List.getD_eq_getElem?_getD, h2]
      exact .top _
  | const v =>
    simp only [trX, Option.map_eq_some_iff] at h
    obtain ⟨y, hy, rfl⟩ := h
    exact trV_rep hy
  | global n => cases h
  | func f =>
    obtain rfl := Option.some.inj h
    exact .func (.func f) #[] #[] [] [] rfl rfl (fun i v y h1 h2 => by simp at h2) (fun i v y h1 h2 => by simp at h2)
/-! ### two operands -/
def aint (op : BinOp) (k : IntKind) (a b : Int) : Option AV :=
  match op with
  | .add => some (.int k (k.wrap (a + b)))
  | .sub => some (.int k (k.wrap (a - b)))
  | .mul => some (.int k (k.wrap (a * b)))
  | .quo => if b = 0 then none else some (.int k (k.wrap (a.tdiv b)))
  | .rem => if b = 0 then none else some (.int k (a.tmod b))
  | .and => some (.int k (bits .and k a b))
  | .or => some (.int k (bits .or k a b))
  | .xor => some (.int k (bits .xor k a b))
  | .andNot => some (.int k (bits .andNot k a b))
  | .eql => some (.bool (a == b))
  | .neq => some (.bool (a != b))
  | .lss => some (.bool (decide (a < b)))
  | .leq => some (.bool (decide (a ≤ b)))
  | .gtr => some (.bool (decide (b < a)))
  | .geq => some (.bool (decide (b ≤ a)))
  | _ => none
def ashift (left : Bool) (k : IntKind) (a b : Int) : Option AV :=
  if b < 0 then none else
  if left then some (.int k (k.wrap (a * 2 ^ (min b.toNat k.bits)))) else some (.int k (a.fdiv (2 ^ (min b.toNat k.bits))))
def astr (op : BinOp) (s t : ByteArray) : Option AV :=
  match op with
  | .add => if s.size + t.size ≤ 9223372036854775807 then some (.str (s ++ t)) else none
  | .eql => some (.bool (s.toList == t.toList))
  | .neq => some (.bool (!(s.toList == t.toList)))
  | .lss => some (.bool (Op.bytesLess s.toList t.toList))
  | .leq => some (.bool (Op.bytesLess s.toList t.toList || s.toList == t.toList))
  | .gtr => some (.bool (!(Op.bytesLess s.toList t.toList || s.toList == t.toList)))
  | .geq => some (.bool (!Op.bytesLess s.toList t.toList))
  | _ => none
def abin (op : BinOp) (x y : AV) : Option AV :=
  match x, y with
  | .int k a, .int k' b => match op with
    | .shl => ashift true k a b
    | .shr => ashift false k a b
    | op => if k = k' then aint op k a b else none
  | .str s, .str t => astr op s t
  | _, _ => none
theorem run_int (P : Program) (w : World) (op : BinOp) (t : TypeId) (k : IntKind) (a b : Int) (y : AV) (h : aint op k a b = some y) (g : Ghost) : ∃ v, (binOp op t (.int k a) (.int k b)).run P w = .ok v w ∧ Rep g w v y := by
  cases op <;> simp only [aint] at h <;> (try (cases h; done)) <;> (try (split at h)) <;> (try (cases h; done)) <;> (obtain rfl := Option.some.inj h) <;> refine ⟨_, ?_, by constructor⟩ <;>
    simp_all [binOp, Op.intArith, Op.intDiv, Op.intCmp, intBits_and, intBits_or, intBits_xor, intBits_andNot]
theorem run_abin (P : Program) (w : World) (op : BinOp) (t : TypeId) {g : Ghost} {u v : Value} {x y z : AV} (hx : Rep g w u x) (hy : Rep g w v y) (h : abin op x y = some z) (o1 o2 : Operand) :
    ∃ r, (do eqGuard op t o1 o2 u v; binOp op t u v : Sem Value).run P w = .ok r w ∧ Rep g w r z := by
  unfold abin at h
  split at h
  · cases hx; cases hy
    rename_i k a k' b
    have hg : eqGuard op t o1 o2 (.int k a) (.int k' b) = pure () := eqGuard_at_int ..
    rw [hg]
    simp only [Sem.run_bind, Sem.run_pure, Result.andThen_ok]
    split at h
    · unfold ashift at h
      split at h
      · cases h
      · simp at h; subst h
        refine ⟨_, ?_, .int _ _⟩
        simp [binOp, Op.shift, *]
    · unfold ashift at h
      split at h
      · cases h
      · simp at h; subst h
        refine ⟨_, ?_, .int _ _⟩
        simp [binOp, Op.shift, *]
    · split at h
      · rename_i hk; subst hk; exact run_int P w _ t _ _ _ _ h g
      · cases h
  · cases hx; cases hy
    rename_i s q
    have hg : eqGuard op t o1 o2 (.string s) (.string q) = pure () := eqGuard_at_string ..
    rw [hg]
    simp only [Sem.run_bind, Sem.run_pure, Result.andThen_ok]
    unfold astr at h
    split at h <;> (try (cases h; done)) <;> (try (split at h)) <;> (try (cases h; done)) <;> (obtain rfl := Option.some.inj h) <;> refine ⟨_, ?_, by constructor⟩
    · rename_i hs
      have : ¬ (((s.size + q.size : Nat) : Int) > IntKind.i64.max) := by rw [IntKind.max_i64]; omega
      simp [binOp, Op.stringOp, this]
      omega
    all_goals simp [binOp, Op.stringOp]
  · cases h

/-! ### one operand, parts, places -/
def isNil : AV → Option Bool
  | .nilp | .nils | .nilf | .nilm | .nili => some true
  | .ptr _ _ _ | .imm _ _ | .wr _ _ _ _ _ | .func _ _ _ | .map _ | .iface _ _ | .rd _ | .emp => some false
  | _ => none
def aun (op : UnOp) : AV → Option AV
  | .int k n => match op with
    | .neg => some (.int k (k.wrap (0 - n)))
    | .xor => some (.int k (bits .xor k (if k.signed then -1 else k.max) n))
    | _ => none
  | .bool b => match op with
    | .not => some (.bool !b)
    | _ => none
  | _ => none
/-- n cells of some, from off on: one cell, or a struct's. -/
def apart (agg : Bool) (n off : Nat) (cs : List AV) : Option AV :=
  if agg then (if off + n ≤ cs.length then some (.agg ((cs.drop off).take n)) else none) else cs[off]?
def aload (H : AHeap) (agg : Bool) (n : Nat) : AV → Option AV
  | .ptr id gen off => match H.get id with
    | some (.row _ g cs) => if g = gen then apart agg n off cs else none
    | _ => none
  | .rd ys => apart agg n 0 ys
  | _ => none
def afieldAddr (off : Nat) : AV → Option AV
  | .ptr id gen o => some (.ptr id gen (o + off))
  | .rd ys => some (.rd (ys.drop off))
  | _ => none
def aidxSl (sz : Nat) : AV → AV → Option AV
  | .wr id gen o n s, .int _ i => if s = sz ∧ 0 ≤ i ∧ i < n then some (.ptr id gen (o + i.toNat * sz)) else none
  | .imm s xs, .int _ i => if s = sz ∧ 0 ≤ i then (xs[i.toNat]?).map (fun x => .rd x.cells) else none
  | _, _ => none
def aidxPt (sz n : Nat) : AV → AV → Option AV
  | .ptr id gen o, .int _ i => if 0 ≤ i ∧ i < n then some (.ptr id gen (o + i.toNat * sz)) else none
  | .rd ys, .int _ i => if 0 ≤ i ∧ i < n then some (.rd (ys.drop (i.toNat * sz))) else none
  | _, _ => none
def aidxStr : AV → AV → Option AV
  | .str s, .int _ i => if 0 ≤ i then (s.data.toList[i.toNat]?).map (fun b => .int .u8 (b.toNat : Int)) else none
  | _, _ => none
def aidxArr (agg : Bool) (sz n : Nat) : AV → AV → Option AV
  | .agg cs, .int _ i => if 0 ≤ i ∧ i < n then apart agg sz (i.toNat * sz) cs else none
  | _, _ => none
def alen : AV → Option AV
  | .str s => some (.int .i64 s.size)
  | .nils | .emp => some (.int .i64 0)
  | .imm _ xs => some (.int .i64 xs.length)
  | .wr _ _ _ n _ => some (.int .i64 n)
  | _ => none
def abound (d : Int) : Option AV → Option Int
  | none => some d
  | some (.int _ i) => some i
  | _ => none
def asliceStr : AV → Option AV → Option AV → Option AV
  | .str s, lo, hi => match abound 0 lo, abound s.size hi with
    | some l, some h => if 0 ≤ l ∧ l ≤ h ∧ h ≤ s.size then some (.str (s.extract l.toNat h.toNat)) else none
    | _, _ => none
  | _, _, _ => none
/-- A cut of a slice, within its length. -/
def asliceSl (sz : Nat) : AV → Option AV → Option AV → Option AV
  | .nils, lo, hi => match abound 0 lo, abound 0 hi with
    | some 0, some 0 => some .nils
    | _, _ => none
  | .imm s xs, lo, hi => match abound 0 lo, abound xs.length hi with
    | some l, some h => if s = sz ∧ 0 ≤ l ∧ l ≤ h ∧ h ≤ xs.length then some (.imm s ((xs.take h.toNat).drop l.toNat)) else none
    | _, _ => none
  | .wr id gen o n s, lo, hi => match abound 0 lo, abound n hi with
    | some l, some h => if s = sz ∧ 0 ≤ l ∧ l ≤ h ∧ h ≤ n then (if l = 0 ∨ l < h then some (.wr id gen (o + l.toNat * s) (h.toNat - l.toNat) s) else some .emp) else none
    | _, _ => none
  | .emp, lo, hi => match abound 0 lo, abound 0 hi with
    | some 0, some 0 => some .emp
    | _, _ => none
  | _, _, _ => none
/-- The elements of a slice of one cell each, as they are now. -/
def aelems (H : AHeap) : AV → Option (List AV)
  | .nils | .emp => some []
  | .imm 1 xs => some xs
  | .wr id gen o n 1 => match H.get id with
    | some (.row _ g cs) => if g = gen ∧ o + n ≤ cs.length then some ((cs.drop o).take n) else none
    | _ => none
  | _ => none
def abyte : AV → Option UInt8
  | .int .u8 n => some (UInt8.ofNat n.toNat)
  | _ => none
def ab2s (H : AHeap) (x : AV) : Option AV := (aelems H x).bind fun xs => (xs.mapM abyte).map fun bs => .str ⟨bs.toArray⟩
def abest (max : Bool) : AV → AV → Option AV
  | .int k x, .int _ y => some (.int k (if max then (if x < y then y else x) else (if y < x then y else x)))
  | _, _ => none
def anonil : AV → Option AV
  | .ptr a b c => some (.ptr a b c)
  | .rd ys => some (.rd ys)
  | .func (.func f) a b => some (.func (.func f) a b)
  | .iface t v => some (.iface t v)
  | _ => none
/-- A struct, an array, or what one cell can hold. -/
def AV.flat : AV → Bool
  | .agg _ => true
  | v => v.one
def afill (cells : List AV) : List (Nat × Nat × AV) → Option (List AV)
  | [] => some cells
  | (off, n, v) :: rest => if v.flat = true ∧ v.cells.length = n ∧ off + n ≤ cells.length then afill (cells.take off ++ v.cells ++ cells.drop (off + n)) rest else none
end Go.Proofs.Ytblflecalomgfaa.AL
