/- Texts gathered into one. -/
import Derived.Calls
import Derived.Still
import Derived.Below
import Derived.Laws.Entries
import Derived.Laws.Strings
import Derived.Laws.Cells
import Derived.Laws.Slices
import Derived.Laws.Tables
import Derived.Laws.Pointers
import Derived.Laws.BytesString
import Derived.Laws.Build
import Derived.Laws.BytesArg
import Derived.Laws.StructEq
import Derived.ChangeKeysEq
import Derived.Laws.AppendOwn
import Derived.Lib.ConvBytes
import Derived.Laws.MakeOwn
/- A plain picture of values and memory: what a call is handed and makes, told without addresses; and what it says of the machine's own values and worlds. -/
set_option linter.unusedVariables false
set_option linter.unusedSimpArgs false
namespace Go.Proofs.YtmdgjfadbhenjaaGreatDoor.AL
open Go
/-- Values without addresses. 'imm': a slice that nobody writes to any more, with its elements (each of sz cells); 'wr': a slice of a row that may be written to (row number, its state's number, where it begins, how many elements of sz cells). 'rd': the address of cells that nobody writes to any more. 'emp': a slice without elements that isn't nil. 'wc': as 'wr', with its capacity. 'top': anything. -/
inductive AV where
  | top
  | bool (b : Bool)
  | int (k : IntKind) (n : Int)
  | str (s : ByteArray)
  | nilp
  | ptr (id gen off : Nat)
  | nils
  | imm (sz : Nat) (xs : List AV)
  | wr (id gen off len sz : Nat)
  | func (fn : Fn) (first caps : List AV)
  | nilf
  | map (id : Nat)
  | nilm
  | iface (t : TypeId) (v : AV)
  | nili
  | agg (cs : List AV)
  | tup (vs : List AV)
  | rd (ys : List AV)
  | emp
  | wc (id gen off len cap sz : Nat)
  deriving Inhabited
def AV.cells : AV → List AV
  | .agg cs => cs
  | v => [v]
/-- What one cell can hold. -/
def AV.one : AV → Bool
  | .agg _ | .tup _ | .top => false
  | _ => true
/-- A row (of elements of type e) that may be written to, cell by cell; or a map. -/
inductive AObj where
  | row (e : TypeId) (gen : Nat) (cells : List AV)
  | map (es : List (AV × AV))
  | iter (s : ByteArray) (pos : Nat)
  deriving Inhabited
def AObj.gen : AObj → Nat
  | .row _ g _ => g
  | .map _ => 0
  | .iter _ _ => 0
structure AHeap where
  next : Nat
  get : Nat → Option AObj
  wf : ∀ i, next ≤ i → get i = none
theorem AHeap.ext' {H H' : AHeap} (h1 : H.next = H'.next) (h2 : ∀ i, H.get i = H'.get i) : H = H' := by
  cases H; cases H'
  simp only at h1 h2
  obtain rfl := h1
  obtain rfl := funext h2
  rfl
/-- Which block a row is, and which blocks nobody writes to. -/
structure Ghost where
  m : Nat → Nat → Option Nat
  Z : Nat → Prop
inductive Rep (g : Ghost) (w : World) : Value → AV → Prop
  | top (v : Value) : Rep g w v .top
  | bool (b : Bool) : Rep g w (.bool b) (.bool b)
  | int (k : IntKind) (n : Int) : Rep g w (.int k n) (.int k n)
  | str (s : ByteArray) : Rep g w (.string s) (.str s)
  | nilp : Rep g w (.pointer none) .nilp
  | ptr (id gen off b : Nat) : g.m id gen = some b → Rep g w (.pointer (some ⟨b, off, none⟩)) (.ptr id gen off)
  | nils : Rep g w (.slice none 0 0) .nils
  | imm (sz : Nat) (xs : List AV) (b o n c : Nat) (u : Nat → Value) : n = xs.length → n ≤ c → c ≤ 9223372036854775807 → g.Z b →
      (∀ x ∈ xs, x.cells.length = sz) →
      (∀ k, k < n * sz → w.cell? ⟨b, o + k, none⟩ = some (u k)) →
      (∀ (j : Nat) (x : AV) (i : Nat) (y : AV), xs[j]? = some x → x.cells[i]? = some y → Rep g w (u (j * sz + i)) y) →
      Rep g w (.slice (some ⟨b, o, none⟩) n c) (.imm sz xs)
  | wr (id gen off len sz b c e n : Nat) : g.m id gen = some b → w.shape? b = some (e, n) → off + c * sz ≤ n → len ≤ c → c ≤ 9223372036854775807 →
      Rep g w (.slice (some ⟨b, off, none⟩) len c) (.wr id gen off len sz)
  | wc (id gen off len cap sz b e n : Nat) : g.m id gen = some b → w.shape? b = some (e, n) → off + cap * sz ≤ n → len ≤ cap → cap ≤ 9223372036854775807 →
      Rep g w (.slice (some ⟨b, off, none⟩) len cap) (.wc id gen off len cap sz)
  | func (fn : Fn) (first caps : Array Value) (fs cs : List AV) : first.size = fs.length → caps.size = cs.length →
      (∀ (i : Nat) (v : Value) (y : AV), first[i]? = some v → fs[i]? = some y → Rep g w v y) → (∀ (i : Nat) (v : Value) (y : AV), caps[i]? = some v → cs[i]? = some y → Rep g w v y) →
      Rep g w (.func fn first caps) (.func fn fs cs)
  | nilf : Rep g w .nilFunc .nilf
  | map (id b : Nat) : g.m id 0 = some b → Rep g w (.map (some b)) (.map id)
  | nilm : Rep g w (.map none) .nilm
  | iface (t : TypeId) (v : Value) (y : AV) : Rep g w v y → Rep g w (.iface t v) (.iface t y)
  | nili : Rep g w .nilIface .nili
  | agg (vs : Array Value) (ys : List AV) : vs.size = ys.length → (∀ (i : Nat) (v : Value) (y : AV), vs[i]? = some v → ys[i]? = some y → Rep g w v y) → Rep g w (.agg vs) (.agg ys)
  | tup (vs : Array Value) (ys : List AV) : vs.size = ys.length → (∀ (i : Nat) (v : Value) (y : AV), vs[i]? = some v → ys[i]? = some y → Rep g w v y) → Rep g w (.tuple vs) (.tup ys)
  | rd (b o : Nat) (ys : List AV) (u : Nat → Value) : g.Z b → (∀ k, k < ys.length → w.cell? ⟨b, o + k, none⟩ = some (u k)) →
      (∀ (i : Nat) (y : AV), ys[i]? = some y → Rep g w (u i) y) → Rep g w (.pointer (some ⟨b, o, none⟩)) (.rd ys)
  | emp (a : Addr) (c : Nat) : Rep g w (.slice (some a) 0 c) .emp
/-- A block of which something is told. -/
def Known (g : Ghost) (b : Nat) : Prop := g.Z b ∨ ∃ id gen, g.m id gen = some b
/-- From (g, w) to (g', w') all that was told stays told. -/
structure Ext (g : Ghost) (w : World) (g' : Ghost) (w' : World) : Prop where
  m : ∀ id gen b, g.m id gen = some b → g'.m id gen = some b
  z : ∀ b, g.Z b → g'.Z b
  same : ∀ b, g.Z b → w'.heap[b]? = w.heap[b]?
  shape : ∀ b s, w.shape? b = some s → w'.shape? b = some s
  size : w.heap.size ≤ w'.heap.size
  os : w'.os = w.os
  tape : w'.tape = w.tape
  output : w'.output = w.output
  known : ∀ b, b < w.heap.size → Known g' b → Known g b
  other : ∀ b, b < w.heap.size → ¬ Known g b → w'.heap[b]? = w.heap[b]?
theorem Ext.refl (g : Ghost) (w : World) : Ext g w g w := ⟨fun _ _ _ h => h, fun _ h => h, fun _ _ => rfl, fun _ _ h => h, Nat.le_refl _, rfl, rfl, rfl, fun _ _ h => h, fun _ _ _ => rfl⟩
theorem Ext.trans {g g1 g2 : Ghost} {w w1 w2 : World} (h : Ext g w g1 w1) (k : Ext g1 w1 g2 w2) : Ext g w g2 w2 :=
  ⟨fun a b c hh => k.m _ _ _ (h.m _ _ _ hh), fun b hh => k.z _ (h.z _ hh), fun b hh => (k.same _ (h.z _ hh)).trans (h.same _ hh), fun b s hh => k.shape _ _ (h.shape _ _ hh), Nat.le_trans h.size k.size, k.os.trans h.os, k.tape.trans h.tape, k.output.trans h.output, fun b hb hk => h.known b hb (k.known b (Nat.lt_of_lt_of_le hb h.size) hk), fun b hb hk => (k.other b (Nat.lt_of_lt_of_le hb h.size) (fun q => hk (h.known b hb q))).trans (h.other b hb hk)⟩
theorem cell_block {w w' : World} {a : Addr} (h : w'.heap[a.block]? = w.heap[a.block]?) : w'.cell? a = w.cell? a := by
  unfold World.cell?
  rw [h]
/-- What keeps told values told. -/
structure Grow (g : Ghost) (w : World) (g' : Ghost) (w' : World) : Prop where
  m : ∀ id gen b, g.m id gen = some b → g'.m id gen = some b
  z : ∀ b, g.Z b → g'.Z b
  same : ∀ b, g.Z b → w'.heap[b]? = w.heap[b]?
  shape : ∀ b s, w.shape? b = some s → w'.shape? b = some s
theorem Ext.grow {g g' : Ghost} {w w' : World} (h : Ext g w g' w') : Grow g w g' w' := ⟨h.m, h.z, h.same, h.shape⟩
theorem Rep.grow {g g' : Ghost} {w w' : World} (h : Grow g w g' w') {v : Value} {y : AV} (hr : Rep g w v y) : Rep g' w' v y := by
  induction hr with
  | top v => exact .top v
  | bool b => exact .bool b
  | int k n => exact .int k n
  | str s => exact .str s
  | nilp => exact .nilp
  | ptr id gen off b hb => exact .ptr id gen off b (h.m _ _ _ hb)
  | nils => exact .nils
  | imm sz xs b o n c u h1 h2 h3 h4 h5 h6 h7 ih =>
    exact .imm sz xs b o n c u h1 h2 h3 (h.z _ h4) h5 (fun k hk => (cell_block (a := ⟨b, o + k, none⟩) (h.same b h4)).trans (h6 k hk)) ih
  | wr id gen off len sz b c e n h1 h2 h3 h4 h5 => exact .wr id gen off len sz b c e n (h.m _ _ _ h1) (h.shape _ _ h2) h3 h4 h5
  | wc id gen off len cap sz b e n h1 h2 h3 h4 h5 => exact .wc id gen off len cap sz b e n (h.m _ _ _ h1) (h.shape _ _ h2) h3 h4 h5
  | func fn first caps fs cs h1 h2 h3 h4 ih1 ih2 => exact .func fn first caps fs cs h1 h2 ih1 ih2
  | nilf => exact .nilf
  | map id b hb => exact .map id b (h.m _ _ _ hb)
  | nilm => exact .nilm
  | iface t v y h1 ih => exact .iface t v y ih
  | nili => exact .nili
  | agg vs ys h1 h2 ih => exact .agg vs ys h1 ih
  | tup vs ys h1 h2 ih => exact .tup vs ys h1 ih
  | emp a c => exact .emp a c
  | rd b o ys u h1 h2 h3 ih => exact .rd b o ys u (h.z _ h1) (fun k hk => (cell_block (a := ⟨b, o + k, none⟩) (h.same b h1)).trans (h2 k hk)) ih
theorem Rep.ext {g g' : Ghost} {w w' : World} (h : Ext g w g' w') {v : Value} {y : AV} (hr : Rep g w v y) : Rep g' w' v y := hr.grow h.grow
/-- Values one by one. -/
def Reps (g : Ghost) (w : World) (vs : Array Value) (ys : List AV) : Prop := vs.size = ys.length ∧ ∀ (i : Nat) (v : Value) (y : AV), vs[i]? = some v → ys[i]? = some y → Rep g w v y
theorem Reps.ext {g g' : Ghost} {w w' : World} (h : Ext g w g' w') {vs : Array Value} {ys : List AV} (hr : Reps g w vs ys) : Reps g' w' vs ys :=
  ⟨hr.1, fun i v y h1 h2 => (hr.2 i v y h1 h2).ext h⟩
theorem Rep.cells {g : Ghost} {w : World} {v : Value} {y : AV} (h : Rep g w v y) (ht : y ≠ .top) : Reps g w v.cells y.cells := by
  have one : ∀ (v : Value) (y : AV), Rep g w v y → Reps g w #[v] [y] := fun v y h => ⟨rfl, fun i a b h1 h2 => by
    cases i with
    | zero => simp at h1 h2; subst h1; subst h2; exact h
    | succ i => simp at h1⟩
  cases h with
  | top => exact absurd rfl ht
  | agg vs ys h1 h2 => exact ⟨h1, h2⟩
  | _ => exact one _ _ (by constructor <;> assumption)
/-! ### what is told of each -/
theorem Rep.imm_inv {g : Ghost} {w : World} {v : Value} {sz : Nat} {xs : List AV} (h : Rep g w v (.imm sz xs)) : ∃ (b o c : Nat) (u : Nat → Value), v = .slice (some ⟨b, o, none⟩) xs.length c ∧ xs.length ≤ c ∧ c ≤ 9223372036854775807 ∧ g.Z b ∧
    (∀ x ∈ xs, x.cells.length = sz) ∧ (∀ k, k < xs.length * sz → w.cell? ⟨b, o + k, none⟩ = some (u k)) ∧
    (∀ (j : Nat) (x : AV) (i : Nat) (y : AV), xs[j]? = some x → x.cells[i]? = some y → Rep g w (u (j * sz + i)) y) := by
  generalize hq : AV.imm sz xs = q at h
  cases h <;> try (cases hq; done)
  case imm sz' xs' b o n c u h1 h2 h3 h4 h5 h6 h7 =>
    cases hq
    subst h1
    exact ⟨b, o, c, u, rfl, h2, h3, h4, h5, h6, h7⟩
theorem Rep.wr_inv {g : Ghost} {w : World} {v : Value} {id gen off len sz : Nat} (h : Rep g w v (.wr id gen off len sz)) : ∃ b c e n, v = .slice (some ⟨b, off, none⟩) len c ∧ g.m id gen = some b ∧ w.shape? b = some (e, n) ∧ off + c * sz ≤ n ∧ len ≤ c ∧ c ≤ 9223372036854775807 := by
  generalize hq : AV.wr id gen off len sz = q at h
  cases h <;> try (cases hq; done)
  case wr id' gen' off' len' sz' b c e n h1 h2 h3 h4 h5 =>
    cases hq
    exact ⟨b, c, e, n, rfl, h1, h2, h3, h4, h5⟩
theorem Rep.wc_inv {g : Ghost} {w : World} {v : Value} {id gen off len cap sz : Nat} (h : Rep g w v (.wc id gen off len cap sz)) : ∃ b e n, v = .slice (some ⟨b, off, none⟩) len cap ∧ g.m id gen = some b ∧ w.shape? b = some (e, n) ∧ off + cap * sz ≤ n ∧ len ≤ cap ∧ cap ≤ 9223372036854775807 := by
  generalize hq : AV.wc id gen off len cap sz = q at h
  cases h <;> try (cases hq; done)
  case wc id' gen' off' len' cap' sz' b e n h1 h2 h3 h4 h5 =>
    cases hq
    exact ⟨b, e, n, rfl, h1, h2, h3, h4, h5⟩
theorem Rep.wc_wr {g : Ghost} {w : World} {v : Value} {id gen off len cap sz : Nat} (h : Rep g w v (.wc id gen off len cap sz)) : Rep g w v (.wr id gen off len sz) := by
  obtain ⟨b, e, n, rfl, h1, h2, h3, h4, h5⟩ := h.wc_inv
  exact .wr id gen off len sz b cap e n h1 h2 h3 h4 h5
theorem Rep.ptr_inv {g : Ghost} {w : World} {v : Value} {id gen off : Nat} (h : Rep g w v (.ptr id gen off)) : ∃ b, v = .pointer (some ⟨b, off, none⟩) ∧ g.m id gen = some b := by
  cases h
  exact ⟨_, rfl, by assumption⟩
theorem Rep.rd_inv {g : Ghost} {w : World} {v : Value} {ys : List AV} (h : Rep g w v (.rd ys)) : ∃ (b o : Nat) (u : Nat → Value), v = .pointer (some ⟨b, o, none⟩) ∧ g.Z b ∧ (∀ k, k < ys.length → w.cell? ⟨b, o + k, none⟩ = some (u k)) ∧ (∀ (i : Nat) (y : AV), ys[i]? = some y → Rep g w (u i) y) := by
  generalize hq : AV.rd ys = q at h
  cases h <;> try (cases hq; done)
  case rd b o ys' u h1 h2 h3 =>
    cases hq
    exact ⟨b, o, u, rfl, h1, h2, h3⟩
theorem Rep.agg_inv {g : Ghost} {w : World} {v : Value} {ys : List AV} (h : Rep g w v (.agg ys)) : ∃ vs, v = .agg vs ∧ Reps g w vs ys := by
  generalize hq : AV.agg ys = q at h
  cases h <;> try (cases hq; done)
  case agg vs ys' h1 h2 =>
    cases hq
    exact ⟨vs, rfl, h1, h2⟩
theorem Rep.tup_inv {g : Ghost} {w : World} {v : Value} {ys : List AV} (h : Rep g w v (.tup ys)) : ∃ vs, v = .tuple vs ∧ Reps g w vs ys := by
  generalize hq : AV.tup ys = q at h
  cases h <;> try (cases hq; done)
  case tup vs ys' h1 h2 =>
    cases hq
    exact ⟨vs, rfl, h1, h2⟩
theorem Rep.func_inv {g : Ghost} {w : World} {v : Value} {fn : Fn} {fs cs : List AV} (h : Rep g w v (.func fn fs cs)) : ∃ first caps, v = .func fn first caps ∧ Reps g w first fs ∧ Reps g w caps cs := by
  generalize hq : AV.func fn fs cs = q at h
  cases h <;> try (cases hq; done)
  case func fn' first caps fs' cs' h1 h2 h3 h4 =>
    cases hq
    exact ⟨first, caps, rfl, ⟨h1, h3⟩, h2, h4⟩
/-- The types of bytes (a row of such may bear a mark behind its last cell). -/
def bytesT : List TypeId := [5]
def tailN (e : TypeId) : Nat := if bytesT.contains e = true then 0 else 1
/-- What the heap's picture says of the machine's blocks. -/
def RepObj (g : Ghost) (w : World) (id : Nat) : AObj → Prop
  | .row e gen cs => ∃ b cur lo hi, g.m id gen = some b ∧ w.heap[b]? = some (.cells cur e (lo, hi)) ∧ (∀ i, i < cur.size + tailN e → ¬ (lo ≤ i ∧ i < hi)) ∧ cs.length ≤ cur.size ∧
      ∀ (i : Nat) (y : AV), cs[i]? = some y → ∃ u, cur[i]? = some u ∧ Rep g w u y
  | .map es => ∃ b ms clock, g.m id 0 = some b ∧ w.heap[b]? = some (.map ms clock) ∧ ms.size = es.length ∧
      ∀ (i : Nat) (e : MapEntry) (x : AV × AV), ms[i]? = some e → es[i]? = some x → Rep g w e.key x.1 ∧ Rep g w e.val x.2
  | .iter s pos => ∃ b, g.m id 0 = some b ∧ w.heap[b]? = some (.stringIter s pos)
/-- The variables that are read: nobody writes to them, and each holds some number. -/
def vars : List Nat := [0]
def VarOk (g : Ghost) (w : World) : Prop := ∀ k ∈ vars, g.Z k ∧ ∃ m, w.cell? ⟨k, 0, none⟩ = some (.int .i64 m)
theorem VarOk.grow {g g' : Ghost} {w w' : World} (h : VarOk g w) (k : Grow g w g' w') : VarOk g' w' := fun b hb => by
  obtain ⟨h1, m, h2⟩ := h b hb
  exact ⟨k.z _ h1, m, (cell_block (a := ⟨b, 0, none⟩) (k.same b h1)).trans h2⟩
theorem VarOk.ext {g g' : Ghost} {w w' : World} (h : VarOk g w) (k : Ext g w g' w') : VarOk g' w' := h.grow k.grow
structure Sim (g : Ghost) (w : World) (H : AHeap) : Prop where
  zlt : ∀ b, g.Z b → b < w.heap.size
  mlt : ∀ id gen b, g.m id gen = some b → id < H.next ∧ b < w.heap.size
  live : ∀ id o, H.get id = some o → RepObj g w id o
  inj : ∀ id id' o o' b, H.get id = some o → H.get id' = some o' → g.m id o.gen = some b → g.m id' o'.gen = some b → id = id'
  nz : ∀ id o b, H.get id = some o → g.m id o.gen = some b → ¬ g.Z b
  gen : ∀ id o gen b, H.get id = some o → g.m id gen = some b → gen ≤ o.gen
  var : VarOk g w
theorem AHeap.lt {H : AHeap} {id : Nat} {o : AObj} (h : H.get id = some o) : id < H.next := by
  rcases Nat.lt_or_ge id H.next with h1 | h1
  · exact h1
  · rw [H.wf id h1] at h; cases h
/-! ### the heap's picture, changed -/
def AHeap.push (H : AHeap) (o : AObj) : AHeap where
  next := H.next + 1
  get i := if i = H.next then some o else H.get i
  wf i hi := by rw [if_neg (by omega)]; exact H.wf i (by omega)
def AHeap.set (H : AHeap) (id : Nat) (o : AObj) : AHeap where
  next := H.next
  get i := if i = id ∧ id < H.next then some o else H.get i
  wf i hi := by rw [if_neg (by omega)]; exact H.wf i hi
def AHeap.kill (H : AHeap) (id : Nat) : AHeap where
  next := H.next
  get i := if i = id then none else H.get i
  wf i hi := by split; rfl; exact H.wf i hi
def AHeap.trunc (H : AHeap) (n : Nat) : AHeap where
  next := min n H.next
  get i := if i < n then H.get i else none
  wf i hi := by
    split
    · exact H.wf i (by omega)
    · rfl
section
variable (H : AHeap) (o o' : AObj) (i j n : Nat)
theorem push_next : (H.push o).next = H.next + 1 := rfl
theorem set_next : (H.set i o).next = H.next := rfl
theorem push_get : (H.push o).get i = if i = H.next then some o else H.get i := rfl
theorem push_get_new : (H.push o).get H.next = some o := by simp [push_get]
theorem push_get_old (h : i < H.next) : (H.push o).get i = H.get i := by rw [push_get, if_neg (by omega)]
theorem set_get_same (h : i < H.next) : (H.set i o).get i = some o := by simp [AHeap.set, h]
theorem set_get_ne (h : j ≠ i) : (H.set i o).get j = H.get j := by simp [AHeap.set, h]
theorem kill_get_ne (h : j ≠ i) : (H.kill i).get j = H.get j := by simp [AHeap.kill, h]
theorem set_set : (H.set i o).set i o' = H.set i o' := by
  apply AHeap.ext'
  · rfl
  · intro k
    simp only [AHeap.set]
    by_cases hk : k = i ∧ i < H.next
    · simp [hk]
    · simp [hk]
theorem trunc_self : H.trunc H.next = H := by
  apply AHeap.ext'
  · simp [AHeap.trunc]
  · intro k
    simp only [AHeap.trunc]
    split
    · rfl
    · exact (H.wf k (by omega)).symm
theorem trunc_kill (h : n ≤ i) : (H.kill i).trunc n = H.trunc n := by
  apply AHeap.ext'
  · rfl
  · intro k
    simp only [AHeap.trunc, AHeap.kill]
    by_cases hk : k < n
    · simp [hk, show k ≠ i by omega]
    · simp [hk]
end
end Go.Proofs.YtmdgjfadbhenjaaGreatDoor.AL
/- Operations that leave memory alone: what they answer, told of the plain picture; and that the machine's operations answer so. -/
set_option linter.unusedVariables false
set_option linter.unusedSimpArgs false
namespace Go.Proofs.YtmdgjfadbhenjaaGreatDoor.AL
open Go
inductive AX where
  | tmp (t : Nat)
  | const (v : AV)
  deriving Inhabited
def AX.ev (a : List AV) : AX → AV
  | .tmp t => a.getD t .top
  | .const v => v
def trV : Value → Option AV
  | .bool b => some (.bool b)
  | .int k n => some (.int k n)
  | .string s => some (.str s)
  | .pointer none => some .nilp
  | .slice none 0 0 => some .nils
  | .nilFunc => some .nilf
  | .map none => some .nilm
  | .nilIface => some .nili
  | _ => none
/-- An aggregate of such values, too. -/
def trVA : Value → Option AV
  | .agg cs => (cs.toList.mapM trV).map .agg
  | v => trV v
def trX : Operand → Option AX
  | .tmp t => some (.tmp t)
  | .const v => (trVA v).map .const
  | .func f => some (.const (.func (.func f) [] []))
  | .global _ => none
/-- The frame's slots, told. -/
structure RepAct (g : Ghost) (w : World) (act : Act) (a : List AV) : Prop where
  defers : act.defers = []
  size : act.tmps.size = a.length
  rep : ∀ (i : Nat) (v : Value) (y : AV), act.tmps[i]? = some v → a[i]? = some y → Rep g w v y
theorem RepAct.grow {g g' : Ghost} {w w' : World} (h : Grow g w g' w') {act : Act} {a : List AV} (hr : RepAct g w act a) : RepAct g' w' act a :=
  ⟨hr.defers, hr.size, fun i v y h1 h2 => (hr.rep i v y h1 h2).grow h⟩
theorem RepAct.ext {g g' : Ghost} {w w' : World} (h : Ext g w g' w') {act : Act} {a : List AV} (hr : RepAct g w act a) : RepAct g' w' act a :=
  ⟨hr.defers, hr.size, fun i v y h1 h2 => (hr.rep i v y h1 h2).ext h⟩
theorem trV_rep {g : Ghost} {w : World} {v : Value} {y : AV} (h : trV v = some y) : Rep g w v y := by
  unfold trV at h
  split at h <;> (try (cases h; done)) <;> (obtain rfl := Option.some.inj h; constructor)
theorem trVs_rep {g : Ghost} {w : World} : ∀ (l : List Value) (ys : List AV), l.mapM trV = some ys → l.length = ys.length ∧ ∀ (i : Nat) (v : Value) (y : AV), l[i]? = some v → ys[i]? = some y → Rep g w v y
  | [], ys, h => by
    simp at h
    subst h
    exact ⟨rfl, fun i v y hv => by simp at hv⟩
  | u :: l, ys, h => by
    rw [List.mapM_cons] at h
    cases hu : trV u with
    | none => rw [hu] at h; cases h
    | some z =>
      cases hl : l.mapM trV with
      | none => rw [hu, hl] at h; cases h
      | some zs =>
        rw [hu, hl] at h
        have h : some (z :: zs) = some ys := h
        obtain rfl := Option.some.inj h
        obtain ⟨h1, h2⟩ := trVs_rep l zs hl
        refine ⟨by rw [List.length_cons, List.length_cons, h1], fun i v y hv hy => ?_⟩
        cases i with
        | zero =>
          simp at hv hy
          subst hv
          subst hy
          exact trV_rep hu
        | succ i => exact h2 i v y (by simpa using hv) (by simpa using hy)
theorem trVA_rep {g : Ghost} {w : World} {v : Value} {y : AV} (h : trVA v = some y) : Rep g w v y := by
  unfold trVA at h
  split at h
  · rename_i cs
    obtain ⟨ys, h1, rfl⟩ := Option.map_eq_some_iff.1 h
    obtain ⟨h2, h3⟩ := trVs_rep (g := g) (w := w) cs.toList ys h1
    refine .agg cs ys (by simpa using h2) (fun i v y hv hy => h3 i v y (by simpa using hv) hy)
  · exact trV_rep h
theorem trX_rep {g : Ghost} {w : World} {act : Act} {a : List AV} (hr : RepAct g w act a) {x : Operand} {x' : AX} (h : trX x = some x') : Rep g w (act.eval x) (x'.ev a) := by
  cases x with
  | tmp t =>
    obtain rfl := Option.some.inj h
    show Rep g w (act.tmps.getD t undef) (a.getD t .top)
    by_cases ht : t < act.tmps.size
    · have h1 : act.tmps[t]? = some act.tmps[t] := Array.getElem?_eq_getElem ht
      have h2 : a[t]? = some (a[t]'(by rw [← hr.size]; exact ht)) := List.getElem?_eq_getElem _
      have := hr.rep t _ _ h1 h2
      rw [Array.getD_eq_getD_getElem?, List.getD_eq_getElem?_getD, h1, h2]
      exact this
    · have hz := hr.size
      have h2 : a[t]? = none := List.getElem?_eq_none (Nat.le_trans (Nat.le_of_eq hz.symm) (Nat.le_of_not_lt ht))
      rw [List.getD_eq_getElem?_getD, h2]
      exact .top _
  | const v =>
    simp only [trX, Option.map_eq_some_iff] at h
    obtain ⟨y, hy, rfl⟩ := h
    exact trVA_rep hy
  | global n => cases h
  | func f =>
    obtain rfl := Option.some.inj h
    exact .func (.func f) #[] #[] [] [] rfl rfl (fun i v y h1 h2 => by simp at h2) (fun i v y h1 h2 => by simp at h2)
/-! ### two operands -/
def aint (op : BinOp) (k : IntKind) (a b : Int) : Option AV :=
  match op with
  | .add => some (.int k (k.wrap (a + b)))
  | .sub => some (.int k (k.wrap (a - b)))
  | .mul => some (.int k (k.wrap (a * b)))
  | .quo => if b = 0 then none else some (.int k (k.wrap (a.tdiv b)))
  | .rem => if b = 0 then none else some (.int k (a.tmod b))
  | .and => some (.int k (bits .and k a b))
  | .or => some (.int k (bits .or k a b))
  | .xor => some (.int k (bits .xor k a b))
  | .andNot => some (.int k (bits .andNot k a b))
  | .eql => some (.bool (a == b))
  | .neq => some (.bool (a != b))
  | .lss => some (.bool (decide (a < b)))
  | .leq => some (.bool (decide (a ≤ b)))
  | .gtr => some (.bool (decide (b < a)))
  | .geq => some (.bool (decide (b ≤ a)))
  | _ => none
def ashift (left : Bool) (k : IntKind) (a b : Int) : Option AV :=
  if b < 0 then none else
  if left then some (.int k (k.wrap (a * 2 ^ (min b.toNat k.bits)))) else some (.int k (a.fdiv (2 ^ (min b.toNat k.bits))))
def astr (op : BinOp) (s t : ByteArray) : Option AV :=
  match op with
  | .add => if s.size + t.size ≤ 9223372036854775807 then some (.str (s ++ t)) else none
  | .eql => some (.bool (s.toList == t.toList))
  | .neq => some (.bool (!(s.toList == t.toList)))
  | .lss => some (.bool (Op.bytesLess s.toList t.toList))
  | .leq => some (.bool (Op.bytesLess s.toList t.toList || s.toList == t.toList))
  | .gtr => some (.bool (!(Op.bytesLess s.toList t.toList || s.toList == t.toList)))
  | .geq => some (.bool (!Op.bytesLess s.toList t.toList))
  | _ => none
def abin (op : BinOp) (x y : AV) : Option AV :=
  match x, y with
  | .int k a, .int k' b => match op with
    | .shl => ashift true k a b
    | .shr => ashift false k a b
    | op => if k = k' then aint op k a b else none
  | .str s, .str t => astr op s t
  | _, _ => none
theorem run_int (P : Program) (w : World) (op : BinOp) (t : TypeId) (k : IntKind) (a b : Int) (y : AV) (h : aint op k a b = some y) (g : Ghost) : ∃ v, (binOp op t (.int k a) (.int k b)).run P w = .ok v w ∧ Rep g w v y := by
  cases op <;> simp only [aint] at h <;> (try (cases h; done)) <;> (try (split at h)) <;> (try (cases h; done)) <;> (obtain rfl := Option.some.inj h) <;> refine ⟨_, ?_, by constructor⟩ <;>
    simp_all [binOp, Op.intArith, Op.intDiv, Op.intCmp, intBits_and, intBits_or, intBits_xor, intBits_andNot]
theorem run_abin (P : Program) (w : World) (op : BinOp) (t : TypeId) {g : Ghost} {u v : Value} {x y z : AV} (hx : Rep g w u x) (hy : Rep g w v y) (h : abin op x y = some z) (o1 o2 : Operand) :
    ∃ r, (do eqGuard op t o1 o2 u v; binOp op t u v : Sem Value).run P w = .ok r w ∧ Rep g w r z := by
  unfold abin at h
  split at h
  · cases hx; cases hy
    rename_i k a k' b
    have hg : eqGuard op t o1 o2 (.int k a) (.int k' b) = pure () := eqGuard_at_int ..
    rw [hg]
    simp only [Sem.run_bind, Sem.run_pure, Result.andThen_ok]
    split at h
    · unfold ashift at h
      split at h
      · cases h
      · simp at h; subst h
        refine ⟨_, ?_, .int _ _⟩
        simp [binOp, Op.shift, *]
    · unfold ashift at h
      split at h
      · cases h
      · simp at h; subst h
        refine ⟨_, ?_, .int _ _⟩
        simp [binOp, Op.shift, *]
    · split at h
      · rename_i hk; subst hk; exact run_int P w _ t _ _ _ _ h g
      · cases h
  · cases hx; cases hy
    rename_i s q
    have hg : eqGuard op t o1 o2 (.string s) (.string q) = pure () := eqGuard_at_string ..
    rw [hg]
    simp only [Sem.run_bind, Sem.run_pure, Result.andThen_ok]
    unfold astr at h
    split at h <;> (try (cases h; done)) <;> (try (split at h)) <;> (try (cases h; done)) <;> (obtain rfl := Option.some.inj h) <;> refine ⟨_, ?_, by constructor⟩
    · rename_i hs
      have : ¬ (((s.size + q.size : Nat) : Int) > IntKind.i64.max) := by rw [IntKind.max_i64]; omega
      simp [binOp, Op.stringOp, this]
      omega
    all_goals simp [binOp, Op.stringOp]
  · cases h

/-! ### one operand, parts, places -/
def aun (op : UnOp) : AV → Option AV
  | .int k n => match op with
    | .neg => some (.int k (k.wrap (0 - n)))
    | .xor => some (.int k (bits .xor k (if k.signed then -1 else k.max) n))
    | _ => none
  | .bool b => match op with
    | .not => some (.bool !b)
    | _ => none
  | _ => none
/-- n cells of some, from off on: one cell, or a struct's. -/
def apart (agg : Bool) (n off : Nat) (cs : List AV) : Option AV :=
  if agg then (if off + n ≤ cs.length then some (.agg ((cs.drop off).take n)) else none) else cs[off]?
def aload (H : AHeap) (agg : Bool) (n : Nat) : AV → Option AV
  | .ptr id gen off => match H.get id with
    | some (.row _ g cs) => if g = gen then apart agg n off cs else none
    | _ => none
  | .rd ys => apart agg n 0 ys
  | _ => none
def afieldAddr (off : Nat) : AV → Option AV
  | .ptr id gen o => some (.ptr id gen (o + off))
  | .rd ys => some (.rd (ys.drop off))
  | _ => none
def aidxSl (sz : Nat) : AV → AV → Option AV
  | .wr id gen o n s, .int _ i => if s = sz ∧ 0 ≤ i ∧ i < n then some (.ptr id gen (o + i.toNat * sz)) else none
  | .imm s xs, .int _ i => if s = sz ∧ 0 ≤ i then (xs[i.toNat]?).map (fun x => .rd x.cells) else none
  | .wc id gen o n _ s, .int _ i => if s = sz ∧ 0 ≤ i ∧ i < n then some (.ptr id gen (o + i.toNat * sz)) else none
  | _, _ => none
def aidxPt (sz n : Nat) : AV → AV → Option AV
  | .ptr id gen o, .int _ i => if 0 ≤ i ∧ i < n then some (.ptr id gen (o + i.toNat * sz)) else none
  | .rd ys, .int _ i => if 0 ≤ i ∧ i < n then some (.rd (ys.drop (i.toNat * sz))) else none
  | _, _ => none
def aidxStr : AV → AV → Option AV
  | .str s, .int _ i => if 0 ≤ i then (s.data.toList[i.toNat]?).map (fun b => .int .u8 (b.toNat : Int)) else none
  | _, _ => none
def aidxArr (agg : Bool) (sz n : Nat) : AV → AV → Option AV
  | .agg cs, .int _ i => if 0 ≤ i ∧ i < n then apart agg sz (i.toNat * sz) cs else none
  | _, _ => none
def alen : AV → Option AV
  | .str s => some (.int .i64 s.size)
  | .nils | .emp => some (.int .i64 0)
  | .imm _ xs => some (.int .i64 xs.length)
  | .wr _ _ _ n _ => some (.int .i64 n)
  | .wc _ _ _ n _ _ => some (.int .i64 n)
  | _ => none
def abound (d : Int) : Option AV → Option Int
  | none => some d
  | some (.int _ i) => some i
  | _ => none
def asliceStr : AV → Option AV → Option AV → Option AV
  | .str s, lo, hi => match abound 0 lo, abound s.size hi with
    | some l, some h => if 0 ≤ l ∧ l ≤ h ∧ h ≤ s.size then some (.str (s.extract l.toNat h.toNat)) else none
    | _, _ => none
  | _, _, _ => none
/-- A cut of a slice, within its length. -/
def asliceSl (sz : Nat) : AV → Option AV → Option AV → Option AV
  | .nils, lo, hi => match abound 0 lo, abound 0 hi with
    | some 0, some 0 => some .nils
    | _, _ => none
  | .imm s xs, lo, hi => match abound 0 lo, abound xs.length hi with
    | some l, some h => if s = sz ∧ 0 ≤ l ∧ l ≤ h ∧ h ≤ xs.length then some (.imm s ((xs.take h.toNat).drop l.toNat)) else none
    | _, _ => none
  | .wr id gen o n s, lo, hi => match abound 0 lo, abound n hi with
    | some l, some h => if s = sz ∧ 0 ≤ l ∧ l ≤ h ∧ h ≤ n then (if l = 0 ∨ l < h then some (.wr id gen (o + l.toNat * s) (h.toNat - l.toNat) s) else some .emp) else none
    | _, _ => none
  | .emp, lo, hi => match abound 0 lo, abound 0 hi with
    | some 0, some 0 => some .emp
    | _, _ => none
  | .wc id gen o n c s, lo, hi => match abound 0 lo, abound n hi with
    | some l, some h => if s = sz ∧ 0 ≤ l ∧ l ≤ h ∧ h ≤ c then some (if l = 0 ∨ l < c then .wc id gen (o + l.toNat * s) (h.toNat - l.toNat) (c - l.toNat) s else .emp) else none
    | _, _ => none
  | _, _, _ => none
/-- The elements of a slice of one cell each, as they are now. -/
def aelems (H : AHeap) : AV → Option (List AV)
  | .nils | .emp => some []
  | .imm 1 xs => some xs
  | .wr id gen o n 1 => match H.get id with
    | some (.row _ g cs) => if g = gen ∧ o + n ≤ cs.length then some ((cs.drop o).take n) else none
    | _ => none
  | _ => none
def abyte : AV → Option UInt8
  | .int .u8 n => some (UInt8.ofNat n.toNat)
  | _ => none
def ab2s (H : AHeap) (x : AV) : Option AV := (aelems H x).bind fun xs => (xs.mapM abyte).map fun bs => .str ⟨bs.toArray⟩
def abest (max : Bool) : AV → AV → Option AV
  | .int k x, .int _ y => some (.int k (if max then (if x < y then y else x) else (if y < x then y else x)))
  | _, _ => none
def anonil : AV → Option AV
  | .ptr a b c => some (.ptr a b c)
  | .rd ys => some (.rd ys)
  | .func (.func f) a b => some (.func (.func f) a b)
  | .iface t v => some (.iface t v)
  | _ => none
/-- A struct, an array, or what one cell can hold. -/
def AV.flat : AV → Bool
  | .agg _ => true
  | v => v.one
def afill (cells : List AV) : List (Nat × Nat × AV) → Option (List AV)
  | [] => some cells
  | (off, n, v) :: rest => if v.flat = true ∧ v.cells.length = n ∧ off + n ≤ cells.length then afill (cells.take off ++ v.cells ++ cells.drop (off + n)) rest else none
end Go.Proofs.YtmdgjfadbhenjaaGreatDoor.AL
/- The quiet operations' answers are the machine's. -/
set_option linter.unusedVariables false
set_option linter.unusedSimpArgs false
namespace Go.Proofs.YtmdgjfadbhenjaaGreatDoor.AL
open Go
def tAgg (P : Program) (t : TypeId) : Option Bool := (P.underlying t).map fun d => match d with | .struct _ | .array _ _ => true | _ => false
def tSize (P : Program) (t : TypeId) : Option Nat := (P.info? t).map (·.size)
section
variable {P : Program} {g : Ghost} {w : World}
theorem run_isAgg {t : TypeId} {b : Bool} (h : tAgg P t = some b) : (isAgg t).run P w = .ok b w := by
  unfold tAgg at h
  obtain ⟨d, hd, hb⟩ := Option.map_eq_some_iff.1 h
  simp only [isAgg, Sem.run_bind, run_underlying hd, Result.andThen_ok]
  cases d <;> simp_all
theorem run_sizeOf {t : TypeId} {n : Nat} (h : tSize P t = some n) : (sizeOf t).run P w = .ok n w := by
  unfold tSize at h
  obtain ⟨i, hi, hn⟩ := Option.map_eq_some_iff.1 h
  simp [sizeOf, typeInfo, hi, hn]
theorem Reps.get {vs : Array Value} {ys : List AV} (h : Reps g w vs ys) {i : Nat} {y : AV} (hy : ys[i]? = some y) : ∃ v, vs[i]? = some v ∧ Rep g w v y := by
  have hi : i < vs.size := by rw [h.1]; exact (List.getElem?_eq_some_iff.1 hy).1
  exact ⟨vs[i], Array.getElem?_eq_getElem hi, h.2 i _ _ (Array.getElem?_eq_getElem hi) hy⟩
theorem Reps.cut {vs : Array Value} {ys : List AV} (h : Reps g w vs ys) (off n : Nat) (hn : off + n ≤ ys.length) : Reps g w (vs.extract off (off + n)) ((ys.drop off).take n) := by
  have h1 := h.1
  refine ⟨by simp; omega, fun i v y hv hy => ?_⟩
  have hi : i < n := by
    have := (List.getElem?_eq_some_iff.1 hy).1
    simp at this
    omega
  refine h.2 (off + i) v y ?_ ?_
  · rw [Array.getElem?_extract] at hv
    rw [if_pos (by omega)] at hv
    exact hv
  · rw [List.getElem?_take, if_pos hi, List.getElem?_drop] at hy
    exact hy
theorem run_apart {t : TypeId} {agg : Bool} {n off : Nat} {vs : Array Value} {cs : List AV} {y : AV} (ha : tAgg P t = some agg) (hn : tSize P t = some n) (hr : Reps g w vs cs) (h : apart agg n off cs = some y) :
    ∃ v, (part t vs off).run P w = .ok v w ∧ Rep g w v y := by
  unfold apart at h
  simp only [part, Sem.run_bind, run_isAgg ha, Result.andThen_ok]
  cases agg with
  | true =>
    simp only [if_true] at h
    split at h
    · obtain rfl := Option.some.inj h
      have hc := hr.cut off n (by assumption)
      refine ⟨.agg (vs.extract off (off + n)), ?_, .agg _ _ hc.1 hc.2⟩
      simp only [if_true, Sem.run_bind, run_sizeOf hn, Result.andThen_ok, Sem.run_pure]
    · cases h
  | false =>
    simp only [Bool.false_eq_true, if_false] at h
    obtain ⟨v, hv, hrep⟩ := hr.get h
    refine ⟨v, ?_, hrep⟩
    simp only [Bool.false_eq_true, if_false, hv, Sem.run_pure]
/-- Cells from an address on. -/
def CellsAt (g : Ghost) (w : World) (b o : Nat) (ys : List AV) : Prop := ∀ (i : Nat) (y : AV), ys[i]? = some y → ∃ u, w.cell? ⟨b, o + i, none⟩ = some u ∧ Rep g w u y
theorem run_loadVar {t : TypeId} {agg : Bool} {n off b o : Nat} {cs : List AV} {y : AV} (ha : tAgg P t = some agg) (hn : tSize P t = some n) (hr : CellsAt g w b o cs) (h : apart agg n off cs = some y) :
    ∃ v, (loadVar t ⟨b, o + off, none⟩).run P w = .ok v w ∧ Rep g w v y := by
  unfold apart at h
  simp only [loadVar, Sem.run_bind, run_isAgg ha, Result.andThen_ok]
  cases agg with
  | true =>
    simp only [if_true] at h
    split at h
    · obtain rfl := Option.some.inj h
      rename_i hle
      have hu : ∀ j, j < n → w.cell? (Addr.add ⟨b, o + off, none⟩ j) = some ((w.cell? ⟨b, o + off + j, none⟩).getD undef) := by
        intro j hj
        obtain ⟨u, hu, _⟩ := hr (off + j) (cs[off + j]'(by omega)) (List.getElem?_eq_getElem (by omega))
        rw [Addr.add_lit, Nat.add_assoc, hu]
        rfl
      refine ⟨.agg ((List.range n).map fun j => (w.cell? ⟨b, o + off + j, none⟩).getD undef).toArray, ?_, .agg _ _ (by simp; omega) ?_⟩
      · simp only [if_true, Sem.run_bind, run_sizeOf hn, Result.andThen_ok, Sem.run_pure, run_loadCells w _ n _ hu]
      · intro i v z hv hz
        have hi : i < n := by
          have := (List.getElem?_eq_some_iff.1 hz).1
          simp at this
          omega
        rw [List.getElem?_take, if_pos hi, List.getElem?_drop] at hz
        obtain ⟨u, hu, hrep⟩ := hr (off + i) z hz
        simp [hi] at hv
        rw [Nat.add_assoc, hu] at hv
        simp at hv
        subst hv
        exact hrep
    · cases h
  | false =>
    simp only [Bool.false_eq_true, if_false] at h
    obtain ⟨u, hu, hrep⟩ := hr off y h
    refine ⟨u, ?_, hrep⟩
    simp only [Bool.false_eq_true, if_false, run_load, hu]
theorem live_row {H : AHeap} {id gen : Nat} {e : TypeId} {cs : List AV} (hS : Sim g w H) (h : H.get id = some (.row e gen cs)) {b : Nat} (hb : g.m id gen = some b) : CellsAt g w b 0 cs := by
  obtain ⟨b', cur, lo, hi, h1, h2, h3, h4, h5⟩ := hS.live id _ h
  rw [hb] at h1
  obtain rfl := Option.some.inj h1
  intro i y hy
  obtain ⟨u, hu, hrep⟩ := h5 i y hy
  refine ⟨u, ?_, hrep⟩
  simp [World.cell?, h2, hu]
theorem run_aload {H : AHeap} (hS : Sim g w H) {t : TypeId} {agg : Bool} {n : Nat} {v : Value} {x y : AV} (ha : tAgg P t = some agg) (hn : tSize P t = some n) (hx : Rep g w v x) (h : aload H agg n x = some y) :
    ∃ u, (Instr.loadAt t v).run P w = .ok u w ∧ Rep g w u y := by
  unfold aload at h
  split at h
  · cases hx
    rename_i id gen off b hb
    split at h
    · rename_i e g' cs hg
      split at h
      · rename_i hgen; subst hgen
        have := run_loadVar ha hn (live_row hS hg hb) h
        simpa [Instr.loadAt, Instr.sureAddr] using this
      · cases h
    · cases h
  · cases hx
    rename_i ys b o u h1 h2 h3
    have hc : CellsAt g w b o ys := fun i z hz => ⟨u i, h2 i (List.getElem?_eq_some_iff.1 hz).1, h3 i z hz⟩
    have := run_loadVar (off := 0) ha hn hc h
    simpa [Instr.loadAt, Instr.sureAddr] using this
  · cases h
end
end Go.Proofs.YtmdgjfadbhenjaaGreatDoor.AL
/- The quiet operations' answers are the machine's: addresses, cuts, lengths, strings out of bytes. -/
set_option linter.unusedVariables false
set_option linter.unusedSimpArgs false
namespace Go.Proofs.YtmdgjfadbhenjaaGreatDoor.AL
open Go
section
variable {P : Program} {g : Ghost} {w : World}
def tField (P : Program) (s : TypeId) (f : Nat) : Option Nat :=
  match P.underlying s with
  | some (.struct fields) => match fields[f]? with
    | some fd => match tSize P fd.type with
      | some (n + 1) => some fd.offset
      | _ => none
    | none => none
  | _ => none
theorem run_fieldAddr {s : TypeId} {f off : Nat} {v : Value} {x y : AV} (ht : tField P s f = some off) (hx : Rep g w v x) (h : afieldAddr off x = some y) :
    ∃ u, (Instr.fieldAt s v f).run P w = .ok u w ∧ Rep g w u y := by
  unfold tField at ht
  split at ht <;> (try (cases ht; done))
  rename_i fields hu
  split at ht <;> (try (cases ht; done))
  rename_i fd hf
  split at ht <;> (try (cases ht; done))
  rename_i n hn
  obtain rfl := Option.some.inj ht
  have hp : ∀ a, (fieldPlace a fd).run P w = .ok (a.add fd.offset) w := by
    intro a
    simp [fieldPlace, run_sizeOf hn]
  unfold afieldAddr at h
  split at h <;> (try (cases h; done))
  · cases hx
    rename_i id gen o b hb
    obtain rfl := Option.some.inj h
    refine ⟨.pointer (some ⟨b, o + fd.offset, none⟩), ?_, .ptr _ _ _ _ hb⟩
    simp [Instr.fieldAt, run_underlying hu, hf, Instr.sureAddr, hp, Addr.add_lit]
  · cases hx
    rename_i ys b o u h1 h2 h3
    obtain rfl := Option.some.inj h
    refine ⟨.pointer (some ⟨b, o + fd.offset, none⟩), ?_, .rd b (o + fd.offset) _ (fun k => u (fd.offset + k)) h1 (fun k hk => ?_) (fun i y hy => ?_)⟩
    · simp [Instr.fieldAt, run_underlying hu, hf, Instr.sureAddr, hp, Addr.add_lit]
    · rw [Nat.add_assoc]; exact h2 _ (by simp at hk; omega)
    · rw [List.getElem?_drop] at hy
      exact h3 _ _ hy
def tElem (P : Program) (t : TypeId) : Option (TypeId × Nat) :=
  match P.underlying t with
  | some (.slice e) => (tSize P e).map fun n => (e, n)
  | _ => none
def tArr (P : Program) (t : TypeId) : Option (Nat × TypeId × Nat) :=
  match P.underlying t with
  | some (.array n e) => (tSize P e).map fun k => (n, e, k)
  | _ => none
theorem tElem_spec {t e : TypeId} {sz : Nat} (h : tElem P t = some (e, sz)) : P.underlying t = some (.slice e) ∧ tSize P e = some sz := by
  unfold tElem at h
  split at h <;> (try (cases h; done))
  obtain ⟨n, hn, he⟩ := Option.map_eq_some_iff.1 h
  simp only [Prod.mk.injEq] at he
  obtain ⟨rfl, rfl⟩ := he
  exact ⟨by assumption, hn⟩
theorem tArr_spec {t e : TypeId} {n sz : Nat} (h : tArr P t = some (n, e, sz)) : P.underlying t = some (.array n e) ∧ tSize P e = some sz := by
  unfold tArr at h
  split at h <;> (try (cases h; done))
  obtain ⟨k, hk, he⟩ := Option.map_eq_some_iff.1 h
  simp only [Prod.mk.injEq] at he
  obtain ⟨rfl, rfl, rfl⟩ := he
  exact ⟨by assumption, hk⟩
theorem run_idxSl {t e : TypeId} {sz : Nat} {u v : Value} {x i y : AV} (ht : tElem P t = some (e, sz)) (hx : Rep g w u x) (hi : Rep g w v i) (h : aidxSl sz x i = some y) :
    ∃ r, (Instr.indexAt t u v).run P w = .ok r w ∧ Rep g w r y := by
  obtain ⟨hu, hs⟩ := tElem_spec ht
  unfold aidxSl at h
  split at h <;> (try (cases h; done))
  · obtain ⟨b, c, e', n', rfl, h1, h2, h3, h4, h5⟩ := hx.wr_inv
    cases hi
    rename_i id gen o n s k i
    split at h <;> (try (cases h; done))
    rename_i hc
    obtain ⟨rfl, h0, hl⟩ := hc
    obtain rfl := Option.some.inj h
    refine ⟨.pointer (some ⟨b, o + i.toNat * s, none⟩), ?_, .ptr _ _ _ _ h1⟩
    simp [Instr.indexAt, asIntOf, run_underlying hu, h0, hl, run_sizeOf hs, Addr.add_lit]
  · obtain ⟨b, o, c, f, rfl, h2, h3, h4, h5, h6, h7⟩ := hx.imm_inv
    cases hi
    rename_i s xs k i
    split at h <;> (try (cases h; done))
    rename_i hc
    obtain ⟨rfl, h0⟩ := hc
    obtain ⟨z, hz, rfl⟩ := Option.map_eq_some_iff.1 h
    have hil : i.toNat < xs.length := (List.getElem?_eq_some_iff.1 hz).1
    have hzl : z.cells.length = s := h5 z (List.mem_of_getElem? hz)
    have hm : i.toNat * s + s ≤ xs.length * s := by rw [← Nat.succ_mul]; exact Nat.mul_le_mul_right _ (by omega)
    refine ⟨.pointer (some ⟨b, o + i.toNat * s, none⟩), ?_, .rd b (o + i.toNat * s) _ (fun k => f (i.toNat * s + k)) h4 (fun k hk => ?_) (fun j y hy => h7 _ _ _ _ hz hy)⟩
    · have hl : i < (xs.length : Int) := by omega
      simp [Instr.indexAt, asIntOf, run_underlying hu, h0, hl, run_sizeOf hs, Addr.add_lit]
    · rw [Nat.add_assoc]
      exact h6 _ (by omega)
  · obtain ⟨b, c, e', n', rfl, h1, h2, h3, h4, h5⟩ := hx.wc_wr.wr_inv
    cases hi
    rename_i id gen o n cc s k i
    split at h <;> (try (cases h; done))
    rename_i hc
    obtain ⟨rfl, h0, hl⟩ := hc
    obtain rfl := Option.some.inj h
    refine ⟨.pointer (some ⟨b, o + i.toNat * s, none⟩), ?_, .ptr _ _ _ _ h1⟩
    simp [Instr.indexAt, asIntOf, run_underlying hu, h0, hl, run_sizeOf hs, Addr.add_lit]
theorem run_idxPt {t e : TypeId} {n sz : Nat} {u v : Value} {x i y : AV} (ht : tArr P t = some (n, e, sz)) (hx : Rep g w u x) (hi : Rep g w v i) (h : aidxPt sz n x i = some y) :
    ∃ r, (Instr.indexAt t u v).run P w = .ok r w ∧ Rep g w r y := by
  obtain ⟨hu, hs⟩ := tArr_spec ht
  unfold aidxPt at h
  split at h <;> (try (cases h; done))
  · obtain ⟨b, rfl, h1⟩ := hx.ptr_inv
    cases hi
    rename_i id gen o k i
    split at h <;> (try (cases h; done))
    rename_i hc
    obtain ⟨h0, hl⟩ := hc
    obtain rfl := Option.some.inj h
    refine ⟨.pointer (some ⟨b, o + i.toNat * sz, none⟩), ?_, .ptr _ _ _ _ h1⟩
    simp [Instr.indexAt, Instr.sureAddr, asIntOf, run_underlying hu, h0, hl, run_sizeOf hs, Addr.add_lit]
  · obtain ⟨b, o, f, rfl, h1, h2, h3⟩ := hx.rd_inv
    cases hi
    rename_i ys k i
    split at h <;> (try (cases h; done))
    rename_i hc
    obtain ⟨h0, hl⟩ := hc
    obtain rfl := Option.some.inj h
    refine ⟨.pointer (some ⟨b, o + i.toNat * sz, none⟩), ?_, .rd b (o + i.toNat * sz) _ (fun k => f (i.toNat * sz + k)) h1 (fun k hk => ?_) (fun i y hy => ?_)⟩
    · simp [Instr.indexAt, Instr.sureAddr, asIntOf, run_underlying hu, h0, hl, run_sizeOf hs, Addr.add_lit]
    · rw [Nat.add_assoc]; exact h2 _ (by simp at hk; omega)
    · rw [List.getElem?_drop] at hy
      exact h3 _ _ hy
theorem bytes_get (s : ByteArray) (i : Nat) (b : UInt8) (h : s.data.toList[i]? = some b) : s[i]? = some b := by
  obtain ⟨hl, hb⟩ := List.getElem?_eq_some_iff.1 h
  have hi : i < s.size := by simpa using hl
  rw [ByteArray.getElem?_lt' s i hi, ← hb]
  rfl
theorem run_idxStr {t : TypeId} {u v : Value} {x i y : AV} (ht : P.underlying t = some .string) (hx : Rep g w u x) (hi : Rep g w v i) (h : aidxStr x i = some y) :
    ∃ r, (Instr.index t u v).run P w = .ok r w ∧ Rep g w r y := by
  unfold aidxStr at h
  split at h <;> (try (cases h; done))
  cases hx; cases hi
  rename_i s k i
  split at h <;> (try (cases h; done))
  rename_i h0
  obtain ⟨b, hb, rfl⟩ := Option.map_eq_some_iff.1 h
  refine ⟨.int .u8 b.toNat, ?_, .int _ _⟩
  simp [Instr.index, asIntOf, run_underlying ht, h0, bytes_get s _ b hb]
theorem run_idxArr {t e : TypeId} {agg : Bool} {n sz : Nat} {u v : Value} {x i y : AV} (ht : tArr P t = some (n, e, sz)) (ha : tAgg P e = some agg) (hx : Rep g w u x) (hi : Rep g w v i) (h : aidxArr agg sz n x i = some y) :
    ∃ r, (Instr.index t u v).run P w = .ok r w ∧ Rep g w r y := by
  obtain ⟨hu, hs⟩ := tArr_spec ht
  unfold aidxArr at h
  split at h <;> (try (cases h; done))
  obtain ⟨vs, rfl, h1, h2⟩ := hx.agg_inv
  cases hi
  rename_i cs k i
  split at h <;> (try (cases h; done))
  rename_i hc
  obtain ⟨r, hr, hrep⟩ := run_apart ha hs ⟨h1, h2⟩ h
  refine ⟨r, ?_, hrep⟩
  simp [Instr.index, asIntOf, run_underlying hu, hc, run_sizeOf hs, hr]
def tFieldV (P : Program) (s : TypeId) (f : Nat) : Option (Bool × Nat × Nat) :=
  match P.underlying s with
  | some (.struct fields) => match fields[f]? with
    | some fd => match tAgg P fd.type, tSize P fd.type with
      | some b, some n => some (b, n, fd.offset)
      | _, _ => none
    | none => none
  | _ => none
def afield (agg : Bool) (n off : Nat) : AV → Option AV
  | .agg cs => apart agg n off cs
  | _ => none
theorem run_field {s : TypeId} {f off n : Nat} {agg : Bool} {v : Value} {x y : AV} (ht : tFieldV P s f = some (agg, n, off)) (hx : Rep g w v x) (h : afield agg n off x = some y) :
    ∃ u, (Instr.field s v f).run P w = .ok u w ∧ Rep g w u y := by
  unfold tFieldV at ht
  split at ht <;> (try (cases ht; done))
  rename_i fields hu
  split at ht <;> (try (cases ht; done))
  rename_i fd hf
  split at ht <;> (try (cases ht; done))
  rename_i b k hb hk
  simp only [Option.some.injEq, Prod.mk.injEq] at ht
  obtain ⟨rfl, rfl, rfl⟩ := ht
  unfold afield at h
  split at h <;> (try (cases h; done))
  obtain ⟨vs, rfl, h1, h2⟩ := hx.agg_inv
  obtain ⟨r, hr, hrep⟩ := run_apart hb hk ⟨h1, h2⟩ h
  refine ⟨r, ?_, hrep⟩
  simp [Instr.field, run_underlying hu, hf, asAgg, hr]
def tLen (P : Program) (t : TypeId) : Bool := match P.underlying t with | some .string | some (.slice _) => true | _ => false
theorem run_alen {t ty : TypeId} {v : Value} {x y : AV} (ht : tLen P t = true) (hx : Rep g w v x) (h : alen x = some y) (hs : ∀ s, x = .str s → P.underlying t = some .string) (hl : (∀ s, x ≠ .str s) → ∃ e, P.underlying t = some (.slice e)) :
    ∃ u, (Builtin.len_ #[t] ty #[v]).run P w = .ok u w ∧ Rep g w u y := by
  unfold alen at h
  split at h <;> (try (cases h; done)) <;> obtain rfl := Option.some.inj h
  · have := hs _ rfl
    cases hx
    exact ⟨_, by simp [Builtin.len_, run_underlying this, goInt], .int _ _⟩
  all_goals
    obtain ⟨e, he⟩ := hl (by intro s hh; cases hh)
  · cases hx
    exact ⟨_, by simp [Builtin.len_, run_underlying he, goInt], .int _ _⟩
  · cases hx
    exact ⟨_, by simp [Builtin.len_, run_underlying he, goInt], .int _ _⟩
  · obtain ⟨b, o, c, f, rfl, _⟩ := hx.imm_inv
    exact ⟨_, by simp [Builtin.len_, run_underlying he, goInt], .int _ _⟩
  · obtain ⟨b, c, e', n', rfl, _⟩ := hx.wr_inv
    exact ⟨_, by simp [Builtin.len_, run_underlying he, goInt], .int _ _⟩
  · obtain ⟨b, c, e', n', rfl, _⟩ := hx.wc_wr.wr_inv
    exact ⟨_, by simp [Builtin.len_, run_underlying he, goInt], .int _ _⟩
end
end Go.Proofs.YtmdgjfadbhenjaaGreatDoor.AL
/- The quiet operations' answers are the machine's: cuts, strings out of bytes, comparisons with nil, composites. -/
set_option linter.unusedVariables false
set_option linter.unusedSimpArgs false
namespace Go.Proofs.YtmdgjfadbhenjaaGreatDoor.AL
open Go
section
variable {P : Program} {g : Ghost} {w : World}
def OptRep (g : Ghost) (w : World) : Option Value → Option AV → Prop
  | none, none => True
  | some v, some y => Rep g w v y
  | _, _ => False
theorem bound_is {lo : Option Value} {lo' : Option AV} {d l : Int} (hlo : OptRep g w lo lo') (hl : abound d lo' = some l) : (lo = none ∧ l = d) ∨ ∃ k, lo = some (.int k l) := by
  cases lo with
  | none =>
    cases lo' with
    | none => simp [abound] at hl; exact .inl ⟨rfl, hl.symm⟩
    | some y => exact hlo.elim
  | some v =>
    cases lo' with
    | none => exact hlo.elim
    | some y =>
      unfold abound at hl
      split at hl <;> (try (cases hl; done))
      · rename_i hq; cases hq
      · rename_i k i hq
        obtain rfl := Option.some.inj hl
        obtain rfl := Option.some.inj hq
        cases hlo
        exact .inr ⟨k, rfl⟩
theorem run_bounds (isSl : Bool) (len cap : Nat) {lo hi : Option Value} {lo' hi' : Option AV} (hlo : OptRep g w lo lo') (hhi : OptRep g w hi hi') {l h : Int}
    (hl : abound 0 lo' = some l) (hh : abound len hi' = some h) (h0 : 0 ≤ l) (h1 : l ≤ h) (h2 : h ≤ cap) :
    (Instr.sliceBounds isSl len cap lo hi none).run P w = .ok (l.toNat, h.toNat, cap) w := by
  have eh : (h.toNat : Int) = h := Int.toNat_of_nonneg (by omega)
  have h3 : (0 : Int) ≤ h := by omega
  rcases bound_is hlo hl with ⟨rfl, rfl⟩ | ⟨k, rfl⟩ <;> rcases bound_is hhi hh with ⟨rfl, rfl⟩ | ⟨k', rfl⟩
  · simp [Instr.sliceBounds]
  · simp [Instr.sliceBounds, run_sliceBound, *]
  · simp only [Int.toNat_natCast] at *
    simp [Instr.sliceBounds, run_sliceBound, *]
  · simp [Instr.sliceBounds, run_sliceBound, *]
theorem run_sliceStr {t : TypeId} {v : Value} {lo hi : Option Value} {x y : AV} {lo' hi' : Option AV} (ht : P.underlying t = some .string) (hx : Rep g w v x) (hlo : OptRep g w lo lo') (hhi : OptRep g w hi hi') (h : asliceStr x lo' hi' = some y) :
    ∃ u, (Instr.sliceAt t v lo hi none).run P w = .ok u w ∧ Rep g w u y := by
  cases x with
  | str s =>
    simp only [asliceStr] at h
    split at h <;> (try (cases h; done))
    rename_i l b hl hb
    split at h <;> (try (cases h; done))
    rename_i hc
    cases hx
    obtain rfl := Option.some.inj h
    refine ⟨.string (s.extract l.toNat b.toNat), ?_, .str _⟩
    have := run_bounds (P := P) false s.size s.size hlo hhi hl hb hc.1 hc.2.1 hc.2.2
    simp [Instr.sliceAt, Instr.slice, run_underlying ht, this]
  | _ => simp [asliceStr] at h
theorem run_sliceSl {t e : TypeId} {sz : Nat} {v : Value} {lo hi : Option Value} {x y : AV} {lo' hi' : Option AV} (ht : tElem P t = some (e, sz)) (hx : Rep g w v x) (hlo : OptRep g w lo lo') (hhi : OptRep g w hi hi') (h : asliceSl sz x lo' hi' = some y) :
    ∃ u, (Instr.sliceAt t v lo hi none).run P w = .ok u w ∧ Rep g w u y := by
  obtain ⟨hu, hs⟩ := tElem_spec ht
  have key : ∀ (a : Option Addr) (len cap : Nat) (l b : Int), abound 0 lo' = some l → abound len hi' = some b → 0 ≤ l → l ≤ b → b ≤ cap →
      (Instr.sliceAt t (.slice a len cap) lo hi none).run P w = .ok (.slice (if cap = l.toNat then a else a.map (·.add (l.toNat * sz))) (b.toNat - l.toNat) (cap - l.toNat)) w := by
    intro a len cap l b hl hb h0 h1 h2
    have := run_bounds (P := P) true len cap hlo hhi hl hb h0 h1 h2
    simp [Instr.sliceAt, Instr.slice, run_underlying hu, this, run_sizeOf hs]
  cases x with
  | nils =>
    simp only [asliceSl] at h
    split at h <;> (try (cases h; done))
    rename_i hl hb
    cases hx
    obtain rfl := Option.some.inj h
    refine ⟨_, key none 0 0 0 0 hl hb (by omega) (by omega) (by omega), ?_⟩
    simpa using Rep.nils
  | imm s xs =>
    obtain ⟨b, o, c, f, rfl, h2, h3, h4, h5, h6, h7⟩ := hx.imm_inv
    simp only [asliceSl] at h
    split at h <;> (try (cases h; done))
    rename_i l r hl hr
    split at h <;> (try (cases h; done))
    rename_i hc
    obtain ⟨rfl, c0, c1, c2⟩ := hc
    obtain rfl := Option.some.inj h
    refine ⟨_, key (some ⟨b, o, none⟩) xs.length c l r hl hr c0 c1 (by omega), ?_⟩
    have hlen : r.toNat - l.toNat = ((xs.take r.toNat).drop l.toNat).length := by simp; omega
    by_cases hcl : c = l.toNat
    · rw [if_pos hcl]
      have hnil : (xs.take r.toNat).drop l.toNat = [] := List.eq_nil_of_length_eq_zero (by rw [← hlen]; omega)
      rw [hnil] at hlen ⊢
      exact .imm s [] b o _ _ (fun _ => undef) hlen (by omega) (by omega) h4 (by simp) (fun k hk => by rw [hlen] at hk; simp at hk) (by simp)
    · rw [if_neg hcl]
      simp only [Option.map_some, Addr.add_lit]
      refine .imm s _ b (o + l.toNat * s) _ _ (fun k => f (l.toNat * s + k)) hlen (by omega) (by omega) h4 (fun x hx => h5 x (List.mem_of_mem_take (List.mem_of_mem_drop hx))) (fun k hk => ?_) (fun j x i y hx hy => ?_)
      · rw [Nat.add_assoc]
        apply h6
        have : (r.toNat - l.toNat) * s + l.toNat * s ≤ xs.length * s := by rw [← Nat.add_mul]; exact Nat.mul_le_mul_right _ (by omega)
        omega
      · rw [List.getElem?_drop, List.getElem?_take] at hx
        split at hx
        · have := h7 _ x i y hx hy
          rw [Nat.add_mul, Nat.add_assoc] at this
          exact this
        · cases hx
  | wr id gen o n s =>
    obtain ⟨b, c, e', n', rfl, h1, h2, h3, h4, h5⟩ := hx.wr_inv
    simp only [asliceSl] at h
    split at h <;> (try (cases h; done))
    rename_i l r hl hr
    split at h <;> (try (cases h; done))
    rename_i hc
    obtain ⟨rfl, c0, c1, c2⟩ := hc
    refine ⟨_, key (some ⟨b, o, none⟩) n c l r hl hr c0 c1 (by omega), ?_⟩
    split at h
    · rename_i hd
      obtain rfl := Option.some.inj h
      have hb : o + l.toNat * s + (c - l.toNat) * s ≤ n' := by
        have : l.toNat * s + (c - l.toNat) * s = c * s := by rw [← Nat.add_mul]; congr 1; omega
        omega
      by_cases hcl : c = l.toNat
      · rw [if_pos hcl]
        have hl0 : l = 0 := by omega
        subst hl0
        simp only [Int.toNat_zero, Nat.zero_mul, Nat.add_zero, Nat.sub_zero] at hb ⊢
        exact .wr _ _ _ _ _ b _ e' n' h1 h2 hb (by omega) (by omega)
      · rw [if_neg hcl]
        simp only [Option.map_some, Addr.add_lit]
        exact .wr _ _ _ _ _ b _ e' n' h1 h2 hb (by omega) (by omega)
    · obtain rfl := Option.some.inj h
      have hz : r.toNat - l.toNat = 0 := by omega
      rw [hz]
      split
      · exact .emp _ _
      · exact .emp _ _
  | emp =>
    simp only [asliceSl] at h
    split at h <;> (try (cases h; done))
    rename_i hl hb
    cases hx
    rename_i a c
    obtain rfl := Option.some.inj h
    refine ⟨_, key (some a) 0 c 0 0 hl hb (by omega) (by omega) (by omega), ?_⟩
    simp only [Int.toNat_zero, Nat.sub_zero]
    split
    · exact .emp _ _
    · exact .emp _ _
  | wc id gen o n c s =>
    obtain ⟨b, e', n', rfl, h1, h2, h3, h4, h5⟩ := hx.wc_inv
    simp only [asliceSl] at h
    split at h <;> (try (cases h; done))
    rename_i l r hl hr
    split at h <;> (try (cases h; done))
    rename_i hc
    obtain ⟨rfl, c0, c1, c2⟩ := hc
    refine ⟨_, key (some ⟨b, o, none⟩) n c l r hl hr c0 c1 (by omega), ?_⟩
    obtain rfl := Option.some.inj h
    by_cases hd : l = 0 ∨ l < c
    · rw [if_pos hd]
      have hb : o + l.toNat * s + (c - l.toNat) * s ≤ n' := by
        have : l.toNat * s + (c - l.toNat) * s = c * s := by rw [← Nat.add_mul]; congr 1; omega
        omega
      by_cases hcl : c = l.toNat
      · rw [if_pos hcl]
        have hl0 : l = 0 := by omega
        subst hl0
        simp only [Int.toNat_zero, Nat.zero_mul, Nat.add_zero, Nat.sub_zero] at hb ⊢
        exact .wc _ _ _ _ _ _ b e' n' h1 h2 hb (by omega) (by omega)
      · rw [if_neg hcl]
        simp only [Option.map_some, Addr.add_lit]
        exact .wc _ _ _ _ _ _ b e' n' h1 h2 hb (by omega) (by omega)
    · rw [if_neg hd]
      have hz : r.toNat - l.toNat = 0 := by omega
      rw [hz]
      split
      · exact .emp _ _
      · exact .emp _ _
  | _ => simp [asliceSl] at h
/-! ### a string out of bytes -/
theorem bytes_rep {vs : List AV} {bs : List UInt8} (h : vs.mapM abyte = some bs) : ∃ ns : List Int, vs = ns.map (AV.int .u8) ∧ bs = ns.map (fun n => UInt8.ofNat n.toNat) := by
  induction vs generalizing bs with
  | nil => simp at h; subst h; exact ⟨[], rfl, rfl⟩
  | cons v vs ih =>
    simp only [List.mapM_cons, Option.bind_eq_bind, Option.bind_eq_some_iff, Option.pure_def, Option.some.injEq] at h
    obtain ⟨b, hb, bs', hbs, rfl⟩ := h
    obtain ⟨ns, rfl, rfl⟩ := ih hbs
    unfold abyte at hb
    split at hb <;> (try (cases hb; done))
    rename_i n
    obtain rfl := Option.some.inj hb
    exact ⟨n :: ns, rfl, rfl⟩
theorem foldl_push (ns : List Int) (s : ByteArray) : ns.foldl (fun r n => r.push (UInt8.ofNat n.toNat)) s = s ++ ⟨(ns.map fun n => UInt8.ofNat n.toNat).toArray⟩ := by
  induction ns generalizing s with
  | nil =>
    simp only [List.foldl_nil, List.map_nil]
    ext1
    simp
  | cons n ns ih =>
    rw [List.foldl_cons, ih]
    ext1
    simp [ByteArray.push]
theorem run_ab2s {H : AHeap} (hS : Sim g w H) {src dst e : TypeId} {v : Value} {x y : AV} (hs : P.underlying src = some (.slice e)) (he : P.underlying e = some (.int .u8)) (hd : P.underlying dst = some .string) (hx : Rep g w v x) (h : ab2s H x = some y) :
    ∃ u, (convert src dst v).run P w = .ok u w ∧ Rep g w u y := by
  unfold ab2s at h
  obtain ⟨xs, hxs, h⟩ := Option.bind_eq_some_iff.1 h
  obtain ⟨bs, hbs, rfl⟩ := Option.map_eq_some_iff.1 h
  obtain ⟨ns, rfl, rfl⟩ := bytes_rep hbs
  have key : ∀ (b o c : Nat), (∀ (i : Nat) (y : AV), (ns.map (AV.int .u8))[i]? = some y → ∃ u, w.cell? ⟨b, o + i, none⟩ = some u ∧ Rep g w u y) →
      (convert src dst (.slice (some ⟨b, o, none⟩) ns.length c)).run P w = .ok (.string ⟨(ns.map fun n => UInt8.ofNat n.toNat).toArray⟩) w := by
    intro b o c hc
    have hl : (loadCells ⟨b, o, none⟩ ns.length).run P w = .ok (ns.map (Value.int .u8)).toArray w := by
      have := run_loadCells_list (P := P) w ⟨b, o, none⟩ (ns.map (Value.int .u8)) (fun j u hj => by
        rw [List.getElem?_map] at hj
        obtain ⟨n, hn, rfl⟩ := Option.map_eq_some_iff.1 hj
        obtain ⟨u, hu, hr⟩ := hc j (.int .u8 n) (by rw [List.getElem?_map, hn]; rfl)
        cases hr
        rw [Addr.add_lit]
        exact hu)
      simpa using this
    rw [run_convert_bytes_string w src dst e _ _ c hs he hd, run_bytesToString w _ _ c ns hl, foldl_push]
    congr 2
  unfold aelems at hxs
  split at hxs <;> (try (cases hxs; done))
  · cases hx
    have : ns = [] := by simpa using (Option.some.inj hxs).symm
    subst this
    exact ⟨_, run_convert_bytes_nil w src e hs he 0 0 dst hd, by exact .str _⟩
  · cases hx
    rename_i a c
    have : ns = [] := by simpa using (Option.some.inj hxs).symm
    subst this
    refine ⟨.string ⟨#[]⟩, ?_, .str _⟩
    rw [run_convert_bytes_string w src dst e _ _ c hs he hd]
    simp [Conv.bytesToString, loadCells, loadCellsFrom, ByteArray.empty, ByteArray.emptyWithCapacity]
    rfl
  · obtain ⟨b, o, c, f, rfl, h2, h3, h4, h5, h6, h7⟩ := hx.imm_inv
    obtain rfl := Option.some.inj hxs
    refine ⟨_, ?_, .str _⟩
    have hl : (ns.map (AV.int .u8)).length = ns.length := List.length_map _
    rw [hl]
    refine key b o c (fun i y hy => ?_)
    have hi : i < (ns.map (AV.int .u8)).length := (List.getElem?_eq_some_iff.1 hy).1
    refine ⟨f i, h6 i (by simpa using hi), ?_⟩
    have h8 : y.cells[0]? = some y := by
      rw [List.getElem?_map] at hy
      obtain ⟨n, _, rfl⟩ := Option.map_eq_some_iff.1 hy
      rfl
    simpa using h7 i y 0 y hy h8
  · obtain ⟨b, c, e', n', rfl, h1, h2, h3, h4, h5⟩ := hx.wr_inv
    rename_i id gen o n
    split at hxs <;> (try (cases hxs; done))
    rename_i e2 g2 cs hg
    split at hxs <;> (try (cases hxs; done))
    rename_i hc
    obtain ⟨rfl, hc⟩ := hc
    have hxs' := Option.some.inj hxs
    have hlen : n = ns.length := by
      have := congrArg List.length hxs'
      simp at this
      omega
    refine ⟨_, ?_, .str _⟩
    subst hlen
    refine key b o c (fun i y hy => ?_)
    have hi : i < ns.length := by have := (List.getElem?_eq_some_iff.1 hy).1; simpa using this
    rw [← hxs', List.getElem?_take, if_pos hi, List.getElem?_drop] at hy
    obtain ⟨u, hu, hr⟩ := live_row hS hg h1 (o + i) y hy
    rw [Nat.zero_add] at hu
    exact ⟨u, hu, hr⟩
end
end Go.Proofs.YtmdgjfadbhenjaaGreatDoor.AL
/- The quiet operations' answers are the machine's: '==' of composites. -/
set_option linter.unusedVariables false
set_option linter.unusedSimpArgs false
namespace Go.Proofs.YtmdgjfadbhenjaaGreatDoor.AL
open Go
inductive Leaf where
  | b
  | i (k : IntKind)
  | s
  deriving DecidableEq, Inhabited
def fit1 : Leaf → AV → Bool
  | .b, .bool _ => true
  | .i k, .int k' _ => k == k'
  | .s, .str _ => true
  | _, _ => false
def fits : List Leaf → List AV → Bool
  | [], [] => true
  | l :: ls, c :: cs => fit1 l c && fits ls cs
  | _, _ => false
def aeqv : AV → AV → Bool
  | .bool a, .bool b => a == b
  | .int _ a, .int _ b => a == b
  | .str s, .str t => s.toList == t.toList
  | _, _ => false
def aeqs : List AV → List AV → Bool
  | x :: xs, y :: ys => aeqv x y && aeqs xs ys
  | _, _ => true
/-- '==' of structs and arrays whose cells are all numbers, bools and strings. -/
def aseq (ls : List Leaf) : AV → AV → Option Bool
  | .agg xs, .agg ys => if fits ls xs = true ∧ fits ls ys = true then some (aeqs xs ys) else none
  | _, _ => none
theorem fits_len : ∀ {ls : List Leaf} {cs : List AV}, fits ls cs = true → cs.length = ls.length
  | [], [], _ => rfl
  | l :: ls, c :: cs, h => by
    simp only [fits, Bool.and_eq_true] at h
    simp [fits_len h.2]
  | [], c :: cs, h => by simp [fits] at h
  | l :: ls, [], h => by simp [fits] at h
theorem fits_append : ∀ {l1 l2 : List Leaf} {cs : List AV}, fits (l1 ++ l2) cs = true → fits l1 (cs.take l1.length) = true ∧ fits l2 (cs.drop l1.length) = true
  | [], l2, cs, h => ⟨rfl, h⟩
  | l :: l1, l2, [], h => by simp [fits] at h
  | l :: l1, l2, c :: cs, h => by
    simp only [List.cons_append, fits, Bool.and_eq_true] at h
    obtain ⟨h1, h2⟩ := fits_append h.2
    simp [fits, h.1, h1, h2]
theorem aeqs_split : ∀ (n : Nat) (xs ys : List AV), xs.length = ys.length → aeqs xs ys = (aeqs (xs.take n) (ys.take n) && aeqs (xs.drop n) (ys.drop n))
  | 0, xs, ys, _ => by simp [aeqs]
  | n + 1, [], [], _ => by simp [aeqs]
  | n + 1, x :: xs, y :: ys, h => by
    simp only [List.take_succ_cons, List.drop_succ_cons, aeqs]
    rw [aeqs_split n xs ys (by simpa using h), Bool.and_assoc]
  | n + 1, [], y :: ys, h => by simp at h
  | n + 1, x :: xs, [], h => by simp at h
section
variable {P : Program} {g : Ghost} {w : World}
/-- The leaves of fields that lie one behind the other, from o on. -/
def leavesF (P : Program) (L : TypeId → Option (List Leaf)) (o : Nat) : List Field → Option (List Leaf)
  | [] => some []
  | f :: fs => if f.offset = o ∧ f.name ≠ "_" then (match L f.type with
    | some l => if tSize P f.type = some l.length then (leavesF P L (o + l.length) fs).map (l ++ ·) else none
    | none => none) else none
def leavesA (l : List Leaf) : Nat → List Leaf
  | 0 => []
  | n + 1 => l ++ leavesA l n
/-- The cells' kinds of a type that can be compared cell by cell. -/
def leaves (P : Program) : Nat → TypeId → Option (List Leaf)
  | 0, _ => none
  | D + 1, t => match P.underlying t with
    | some .bool => some [.b]
    | some (.int k) => some [.i k]
    | some .string => some [.s]
    | some (.struct fs) => if P.stoodInHeld t = false then leavesF P (leaves P D) 0 fs.toList else none
    | some (.array n e) => match leaves P D e with
      | some l => if tSize P e = some l.length then some (leavesA l n) else none
      | none => none
    | _ => none
/-- A value of type t with such cells. -/
def VF (P : Program) (t : TypeId) (ls : List Leaf) (x : AV) : Prop := fits ls x.cells = true ∧ (tAgg P t = some true → ∃ cs, x = .agg cs) ∧ (tAgg P t = some false → x.one = true)
theorem part_VF {t : TypeId} {agg : Bool} {l1 : List Leaf} {cs : List AV} {o : Nat} (ha : tAgg P t = some agg) (hs : agg = false → l1.length = 1) (hle : o + l1.length ≤ cs.length) (hf : fits l1 ((cs.drop o).take l1.length) = true) :
    ∃ x, apart agg l1.length o cs = some x ∧ x.cells = (cs.drop o).take l1.length ∧ VF P t l1 x := by
  cases agg with
  | true =>
    refine ⟨.agg ((cs.drop o).take l1.length), by simp [apart, hle], rfl, hf, fun _ => ⟨_, rfl⟩, fun h => ?_⟩
    rw [ha] at h; cases h
  | false =>
    have h1 := hs rfl
    have hlt : o < cs.length := by omega
    have hg : cs[o]? = some cs[o] := List.getElem?_eq_getElem hlt
    have ht : (cs.drop o).take l1.length = [cs[o]] := by
      rw [h1, List.drop_eq_getElem_cons hlt]; rfl
    have hone : cs[o].one = true := by
      rw [ht] at hf
      match l1, hf with
      | [l], hf =>
        simp only [fits, Bool.and_true] at hf
        cases hq : cs[o] <;> rw [hq] at hf <;> cases l <;> simp_all [fit1, AV.one]
    have hc : cs[o].cells = [cs[o]] := by
      cases hq : cs[o] <;> rw [hq] at hone <;> simp [AV.one, AV.cells] at hone ⊢
    refine ⟨cs[o], by simp [apart, hg], by rw [ht, hc], ⟨by rw [hc, ← ht]; exact hf, fun h => ?_, fun _ => hone⟩⟩
    rw [ha] at h; cases h
theorem leaves_agg {D : Nat} {t : TypeId} {ls : List Leaf} (h : leaves P D t = some ls) : ∃ agg, tAgg P t = some agg ∧ (agg = false → ls.length = 1) := by
  cases D with
  | zero => cases h
  | succ D =>
    simp only [leaves] at h
    split at h <;> rename_i hu <;> (try (cases h; done))
    · obtain rfl := Option.some.inj h; exact ⟨false, by simp [tAgg, hu], fun _ => rfl⟩
    · obtain rfl := Option.some.inj h; exact ⟨false, by simp [tAgg, hu], fun _ => rfl⟩
    · obtain rfl := Option.some.inj h; exact ⟨false, by simp [tAgg, hu], fun _ => rfl⟩
    · exact ⟨true, by simp [tAgg, hu], fun e => by cases e⟩
    · exact ⟨true, by simp [tAgg, hu], fun e => by cases e⟩
theorem run_eqs : ∀ (D d : Nat) (t : TypeId) (ls : List Leaf) (u v : Value) (x y : AV), D ≤ d → leaves P D t = some ls → Rep g w u x → Rep g w v y → VF P t ls x → VF P t ls y →
    (Op.equalIn d t u v).run P w = .ok (aeqs x.cells y.cells) w := by
  intro D
  induction D with
  | zero => intro d t ls u v x y _ h; cases h
  | succ D ih =>
    intro d t ls u v x y hd he hx hy hvx hvy
    obtain ⟨d, rfl⟩ : ∃ k, d = k + 1 := ⟨d - 1, by omega⟩
    simp only [leaves] at he
    have one : ∀ {l : Leaf} {z : AV}, fits [l] z.cells = true → z.one = true → fit1 l z = true ∧ z.cells = [z] := by
      intro l z h1 h2
      have : z.cells = [z] := by cases z <;> simp [AV.one, AV.cells] at h2 ⊢
      rw [this] at h1
      simp only [fits, Bool.and_true] at h1
      exact ⟨h1, this⟩
    split at he <;> rename_i hu <;> (try (cases he; done))
    · obtain rfl := Option.some.inj he
      have hg : tAgg P t = some false := by simp [tAgg, hu]
      obtain ⟨a1, a2⟩ := one hvx.1 (hvx.2.2 hg)
      obtain ⟨b1, b2⟩ := one hvy.1 (hvy.2.2 hg)
      rw [a2, b2]
      cases x <;> simp [fit1] at a1
      cases y <;> simp [fit1] at b1
      cases hx; cases hy
      rw [run_equalIn_bool' w d t _ _ hu]
      simp [aeqs, aeqv]
    · rename_i k
      obtain rfl := Option.some.inj he
      have hg : tAgg P t = some false := by simp [tAgg, hu]
      obtain ⟨a1, a2⟩ := one hvx.1 (hvx.2.2 hg)
      obtain ⟨b1, b2⟩ := one hvy.1 (hvy.2.2 hg)
      rw [a2, b2]
      cases x <;> simp [fit1] at a1
      cases y <;> simp [fit1] at b1
      subst a1; subst b1
      cases hx; cases hy
      rw [run_equalIn_int w d t k _ _ _ hu]
      simp [aeqs, aeqv]
    · obtain rfl := Option.some.inj he
      have hg : tAgg P t = some false := by simp [tAgg, hu]
      obtain ⟨a1, a2⟩ := one hvx.1 (hvx.2.2 hg)
      obtain ⟨b1, b2⟩ := one hvy.1 (hvy.2.2 hg)
      rw [a2, b2]
      cases x <;> simp [fit1] at a1
      cases y <;> simp [fit1] at b1
      cases hx; cases hy
      rw [run_equalIn_string w d t _ _ hu]
      simp [aeqs, aeqv]
    · rename_i fs
      have hg : tAgg P t = some true := by simp [tAgg, hu]
      split at he <;> (try (cases he; done))
      rename_i hst
      obtain ⟨xs, rfl⟩ := hvx.2.1 hg
      obtain ⟨ys, rfl⟩ := hvy.2.1 hg
      obtain ⟨us, rfl, hxs⟩ := hx.agg_inv
      obtain ⟨vs, rfl, hys⟩ := hy.agg_inv
      have hff : P.fieldsOf t = fs := by simp [Program.fieldsOf, hu]
      rw [run_equalIn_struct (P := P) w d t us vs (by rw [hff]; exact hu) hst, hff]
      have key : ∀ (l : List Field) (o : Nat) (ls : List Leaf), leavesF P (leaves P D) o l = some ls → fits ls (xs.drop o) = true → fits ls (ys.drop o) = true → o ≤ xs.length → o ≤ ys.length →
          (Op.eqFields d us vs l).run P w = .ok (aeqs (xs.drop o) (ys.drop o)) w := by
        intro l
        induction l with
        | nil =>
          intro o ls h1 h2 h3 _ _
          obtain rfl := Option.some.inj h1
          have e1 := fits_len h2
          have e2 := fits_len h3
          rw [List.eq_nil_of_length_eq_zero e1, List.eq_nil_of_length_eq_zero e2]
          simp [Op.eqFields, aeqs]
        | cons f l ihl =>
          intro o ls h1 h2 h3 ho1 ho2
          simp only [leavesF] at h1
          split at h1 <;> (try (cases h1; done))
          rename_i hc
          obtain ⟨rfl, hname⟩ := hc
          split at h1 <;> (try (cases h1; done))
          rename_i l1 hl1
          split at h1 <;> (try (cases h1; done))
          rename_i hsz
          obtain ⟨l2, hl2, rfl⟩ := Option.map_eq_some_iff.1 h1
          obtain ⟨p1, p2⟩ := fits_append h2
          obtain ⟨q1, q2⟩ := fits_append h3
          obtain ⟨agg, hagg, hone⟩ := leaves_agg hl1
          have z1 := fits_len p1
          have z2 := fits_len q1
          simp only [List.length_take, List.length_drop] at z1 z2
          obtain ⟨x1, hx1, cx1, vx1⟩ := part_VF hagg hone (by omega) p1
          obtain ⟨y1, hy1, cy1, vy1⟩ := part_VF hagg hone (by omega) q1
          obtain ⟨u1, hu1, ru1⟩ := run_apart (P := P) (w := w) hagg hsz hxs hx1
          obtain ⟨v1, hv1, rv1⟩ := run_apart (P := P) (w := w) hagg hsz hys hy1
          have he1 := ih d f.type l1 u1 v1 x1 y1 (by omega) hl1 ru1 rv1 vx1 vy1
          rw [List.drop_drop] at p2 q2
          have he2 := ihl (f.offset + l1.length) l2 hl2 p2 q2 (by omega) (by omega)
          have hsp := aeqs_split l1.length (xs.drop f.offset) (ys.drop f.offset) (by
            have := fits_len h2; have := fits_len h3; omega)
          rw [hsp, ← cx1, ← cy1, List.drop_drop, List.drop_drop]
          simp only [Op.eqFields, if_pos hname, Sem.run_bind, hu1, hv1, he1, Result.andThen_ok]
          cases aeqs x1.cells y1.cells
          · simp
          · simpa using he2
      exact key fs.toList 0 ls he (by simpa [AV.cells] using hvx.1) (by simpa [AV.cells] using hvy.1) (Nat.zero_le _) (Nat.zero_le _)
    · rename_i n e
      have hg : tAgg P t = some true := by simp [tAgg, hu]
      split at he <;> (try (cases he; done))
      rename_i l1 hl1
      split at he <;> (try (cases he; done))
      rename_i hsz
      obtain rfl := Option.some.inj he
      obtain ⟨xs, rfl⟩ := hvx.2.1 hg
      obtain ⟨ys, rfl⟩ := hvy.2.1 hg
      obtain ⟨us, rfl, hxs⟩ := hx.agg_inv
      obtain ⟨vs, rfl, hys⟩ := hy.agg_inv
      have hsz' := hsz
      unfold tSize at hsz'
      obtain ⟨i0, hi0, hi1⟩ := Option.map_eq_some_iff.1 hsz'
      have hco : P.cellsOf e = l1.length := by simp [Program.cellsOf, hi0, hi1]
      rw [run_equalIn_array (P := P) w d us vs hu hi0, hco]
      obtain ⟨agg, hagg, hone⟩ := leaves_agg hl1
      have key : ∀ (m k : Nat), fits (leavesA l1 m) (xs.drop (k * l1.length)) = true → fits (leavesA l1 m) (ys.drop (k * l1.length)) = true → k * l1.length ≤ xs.length → k * l1.length ≤ ys.length →
          (Op.eqItems d e l1.length us vs (List.range' k m)).run P w = .ok (aeqs (xs.drop (k * l1.length)) (ys.drop (k * l1.length))) w := by
        intro m
        induction m with
        | zero =>
          intro k h2 h3 _ _
          have e1 := fits_len h2
          have e2 := fits_len h3
          rw [List.eq_nil_of_length_eq_zero e1, List.eq_nil_of_length_eq_zero e2]
          simp [Op.eqItems, aeqs]
        | succ m ihm =>
          intro k h2 h3 ho1 ho2
          simp only [leavesA] at h2 h3
          obtain ⟨p1, p2⟩ := fits_append h2
          obtain ⟨q1, q2⟩ := fits_append h3
          have z1 := fits_len p1
          have z2 := fits_len q1
          simp only [List.length_take, List.length_drop] at z1 z2
          obtain ⟨x1, hx1, cx1, vx1⟩ := part_VF hagg hone (by omega) p1
          obtain ⟨y1, hy1, cy1, vy1⟩ := part_VF hagg hone (by omega) q1
          obtain ⟨u1, hu1, ru1⟩ := run_apart (P := P) (w := w) hagg hsz hxs hx1
          obtain ⟨v1, hv1, rv1⟩ := run_apart (P := P) (w := w) hagg hsz hys hy1
          have he1 := ih d e l1 u1 v1 x1 y1 (by omega) hl1 ru1 rv1 vx1 vy1
          have hk : k * l1.length + l1.length = (k + 1) * l1.length := by rw [Nat.succ_mul]
          rw [List.drop_drop, hk] at p2 q2
          have he2 := ihm (k + 1) p2 q2 (by omega) (by omega)
          have hsp := aeqs_split l1.length (xs.drop (k * l1.length)) (ys.drop (k * l1.length)) (by
            have := fits_len h2; have := fits_len h3; omega)
          rw [hsp, ← cx1, ← cy1, List.drop_drop, List.drop_drop, hk]
          simp only [List.range'_succ, Op.eqItems, Sem.run_bind, hu1, hv1, he1, Result.andThen_ok]
          cases aeqs x1.cells y1.cells
          · simp
          · simpa using he2
      have := key n 0 (by simpa [AV.cells] using hvx.1) (by simpa [AV.cells] using hvy.1) (by simp) (by simp)
      rw [List.range_eq_range']
      simpa [AV.cells] using this
theorem run_aseq {t : TypeId} {ls : List Leaf} {u v : Value} {x y : AV} {b : Bool} (hl : leaves P 9 t = some ls) (hagg : tAgg P t = some true) (hgd : P.eqGuardType P.depth t = false) (hx : Rep g w u x) (hy : Rep g w v y) (h : aseq ls x y = some b) (o1 o2 : Operand) :
    (do eqGuard .eql t o1 o2 u v; binOp .eql t u v : Sem Value).run P w = .ok (.bool b) w ∧ (do eqGuard .neq t o1 o2 u v; binOp .neq t u v : Sem Value).run P w = .ok (.bool !b) w := by
  unfold aseq at h
  split at h <;> (try (cases h; done))
  rename_i xs ys
  split at h <;> (try (cases h; done))
  rename_i hf
  obtain rfl := Option.some.inj h
  obtain ⟨us, rfl, hxs⟩ := hx.agg_inv
  obtain ⟨vs, rfl, hys⟩ := hy.agg_inv
  have hvx : VF P t ls (.agg xs) := ⟨hf.1, fun _ => ⟨_, rfl⟩, fun h => by rw [hagg] at h; cases h⟩
  have hvy : VF P t ls (.agg ys) := ⟨hf.2, fun _ => ⟨_, rfl⟩, fun h => by rw [hagg] at h; cases h⟩
  have := run_eqs 9 10000 t ls _ _ _ _ (by omega) hl hx hy hvx hvy
  simp only [Sem.run_bind, run_eqGuard_agg w _ t o1 o2 us vs hgd, Result.andThen_ok, run_eql_struct w t us vs, run_neq_struct w t us vs, this]
  exact ⟨rfl, rfl⟩
end
end Go.Proofs.YtmdgjfadbhenjaaGreatDoor.AL
/- The quiet operations, all of them: what they answer, and that the machine's operations answer so. -/
set_option linter.unusedVariables false
set_option linter.unusedSimpArgs false
namespace Go.Proofs.YtmdgjfadbhenjaaGreatDoor.AL
open Go
/-- The kinds of types of which values are held against nil. -/
inductive NK where
  | ptr | sl | map | func | iface
  deriving DecidableEq, Inhabited
def nilOf : NK → AV → Option Bool
  | .ptr, .nilp => some true
  | .ptr, .ptr _ _ _ => some false
  | .ptr, .rd _ => some false
  | .sl, .nils => some true
  | .sl, .imm _ _ => some false
  | .sl, .wr _ _ _ _ _ => some false
  | .sl, .emp => some false
  | .sl, .wc _ _ _ _ _ _ => some false
  | .map, .nilm => some true
  | .map, .map _ => some false
  | .func, .nilf => some true
  | .func, .func _ _ _ => some false
  | .iface, .nili => some true
  | .iface, .iface _ _ => some false
  | _, _ => none
def anil (k : NK) (x y : AV) : Option Bool :=
  match nilOf k x, nilOf k y with
  | some true, some b => some b
  | some false, some true => some false
  | _, _ => none
section
variable {P : Program} {g : Ghost} {w : World}
def tNil (P : Program) (t : TypeId) : Option NK :=
  match P.underlying t with
  | some (.pointer _) => some .ptr
  | some (.slice _) => some .sl
  | some (.map _ _) => some .map
  | some (.func _ _ _) => some .func
  | some (.interface _) => some .iface
  | _ => none
def isC : Operand → Bool
  | .const _ => true
  | _ => false
theorem run_nil_equalIn (d : Nat) {t : TypeId} {k : NK} {u v : Value} {x y : AV} {b : Bool} (ht : tNil P t = some k) (hx : Rep g w u x) (hy : Rep g w v y) (h : anil k x y = some b) : (Op.equalIn (d + 1) t u v).run P w = .ok b w := by
  unfold tNil at ht
  unfold anil at h
  split at ht <;> rename_i hu <;> (try (cases ht; done)) <;> obtain rfl := Option.some.inj ht
  all_goals
    cases x <;> simp only [nilOf] at h <;> (try (cases h; done)) <;> cases y <;> simp only [nilOf] at h <;> (try (cases h; done)) <;> (obtain rfl := Option.some.inj h) <;> cases hx <;> cases hy <;>
      (refine (Sem.run_bind' P (underlying t) _ w).trans ?_; rw [run_underlying hu]; rfl)
theorem run_nil_equal {t : TypeId} {k : NK} {u v : Value} {x y : AV} {b : Bool} (ht : tNil P t = some k) (hx : Rep g w u x) (hy : Rep g w v y) (h : anil k x y = some b) : (Op.equal t u v).run P w = .ok b w := run_nil_equalIn 9999 ht hx hy h
theorem run_nil_guard {k : NK} {t : TypeId} {u v : Value} {x y : AV} {b : Bool} (hx : Rep g w u x) (hy : Rep g w v y) (h : anil k x y = some b) (op : BinOp) (o1 o2 : Operand) (hc : isC o1 = true ∨ isC o2 = true) : (eqGuard op t o1 o2 u v).run P w = .ok () w := by
  unfold anil at h
  cases k <;> cases x <;> simp only [nilOf] at h <;> (try (cases h; done)) <;> cases y <;> simp only [nilOf] at h <;> (try (cases h; done)) <;> cases hx <;> cases hy <;>
    (first
      | (simp only [eqGuard_at_pointer, eqGuard_at_slice, eqGuard_at_map, eqGuard_at_func, eqGuard_at_nilFunc, eqGuard_at_iface, eqGuard_nil_iface]; rfl)
      | (rcases hc with hc | hc
         · cases o1 <;> simp [isC] at hc
           rw [eqGuard_nil_constL]; rfl
         · cases o2 <;> simp [isC] at hc
           rw [eqGuard_nil_constR]; rfl))
theorem nil_binOp {k : NK} {t : TypeId} {u v : Value} {x y : AV} {b : Bool} (hx : Rep g w u x) (hy : Rep g w v y) (h : anil k x y = some b) :
    binOp .eql t u v = (do pure (.bool (← Op.equal t u v)) : Sem Value) ∧ binOp .neq t u v = (do pure (.bool (!(← Op.equal t u v))) : Sem Value) := by
  unfold anil at h
  cases k <;> cases x <;> simp only [nilOf] at h <;> (try (cases h; done)) <;> cases y <;> simp only [nilOf] at h <;> (try (cases h; done)) <;> cases hx <;> cases hy <;> exact ⟨rfl, rfl⟩
theorem run_anil {t : TypeId} {k : NK} {u v : Value} {x y : AV} {b : Bool} (ht : tNil P t = some k) (hx : Rep g w u x) (hy : Rep g w v y) (h : anil k x y = some b) (o1 o2 : Operand) (hc : isC o1 = true ∨ isC o2 = true) :
    (do eqGuard .eql t o1 o2 u v; binOp .eql t u v : Sem Value).run P w = .ok (.bool b) w ∧ (do eqGuard .neq t o1 o2 u v; binOp .neq t u v : Sem Value).run P w = .ok (.bool !b) w := by
  obtain ⟨e1, e2⟩ := nil_binOp (t := t) hx hy h
  rw [e1, e2]
  simp only [Sem.run_bind, run_nil_guard hx hy h _ o1 o2 hc, Result.andThen_ok, run_nil_equal ht hx hy h, Sem.run_pure]
  exact ⟨trivial, trivial⟩
theorem run_aun {u : Value} {x y : AV} {op : UnOp} (hx : Rep g w u x) (h : aun op x = some y) : ∃ v, (Op.unary op u).run P w = .ok v w ∧ Rep g w v y := by
  unfold aun at h
  split at h <;> (try (cases h; done))
  · split at h <;> (try (cases h; done)) <;> (obtain rfl := Option.some.inj h) <;> cases hx
    · exact ⟨_, by simp [Op.unary, Op.intArith], .int _ _⟩
    · exact ⟨_, by simp [Op.unary, intBits_xor], .int _ _⟩
  · split at h <;> (try (cases h; done)) <;> (obtain rfl := Option.some.inj h) <;> cases hx
    exact ⟨_, by simp [Op.unary], .bool _⟩
theorem run_abest {u v : Value} {x y z : AV} (hx : Rep g w u x) (hy : Rep g w v y) (mx : Bool) (h : abest mx x y = some z) (ts : Array TypeId) (t : TypeId) :
    ∃ r, ((if mx then Builtin.max_ ts t #[u, v] else Builtin.min_ ts t #[u, v]) : Sem Value).run P w = .ok r w ∧ Rep g w r z := by
  unfold abest at h
  split at h <;> (try (cases h; done))
  obtain rfl := Option.some.inj h
  cases hx; cases hy
  cases mx
  · exact ⟨_, by simp [Builtin.min_, Builtin.min2], .int _ _⟩
  · exact ⟨_, by simp [Builtin.max_, Builtin.max2], .int _ _⟩
/-! ### composites built -/
theorem foldl_sets (off : Nat) : ∀ (l : List Value) (s : Nat) (cs : Array Value),
    ((l.zipIdx s).foldl (fun cs p => cs.setIfInBounds (off + p.2) p.1) cs).size = cs.size ∧
    ∀ k : Nat, ((l.zipIdx s).foldl (fun cs p => cs.setIfInBounds (off + p.2) p.1) cs)[k]? = if off + s ≤ k ∧ k < off + s + l.length ∧ k < cs.size then l[k - (off + s)]? else cs[k]?
  | [], s, cs => ⟨rfl, fun k => by rw [if_neg (by simp; omega)]; rfl⟩
  | v :: l, s, cs => by
    obtain ⟨h1, h2⟩ := foldl_sets off l (s + 1) (cs.setIfInBounds (off + s) v)
    simp only [List.zipIdx_cons, List.foldl_cons]
    refine ⟨by rw [h1]; simp, fun k => ?_⟩
    rw [h2 k]
    simp only [Array.size_setIfInBounds, List.length_cons]
    by_cases hk : off + s = k
    · subst hk
      rw [if_neg (by omega)]
      by_cases hlt : off + s < cs.size
      · rw [if_pos ⟨by omega, by omega, hlt⟩, Array.getElem?_setIfInBounds_self_of_lt hlt]
        simp
      · rw [if_neg (by omega)]
        simp [Array.getElem?_eq_none (Nat.le_of_not_lt hlt), Array.setIfInBounds, hlt]
    · by_cases hc : off + (s + 1) ≤ k ∧ k < off + (s + 1) + l.length ∧ k < cs.size
      · rw [if_pos hc, if_pos ⟨by omega, by omega, hc.2.2⟩]
        rw [show k - (off + s) = (k - (off + (s + 1))) + 1 by omega]
        rfl
      · rw [if_neg hc, if_neg (by omega), Array.getElem?_setIfInBounds_ne hk]
theorem fill_rep (place : Nat → Option (Nat × Nat)) : ∀ (l : List (Nat × Value)) (as : List (Nat × Nat × AV)) (cells : Array Value) (acells res : List AV),
    l.length = as.length → (∀ (j : Nat) (p : Nat × Value) (q : Nat × Nat × AV), l[j]? = some p → as[j]? = some q → place p.1 = some (q.1, q.2.1) ∧ Rep g w p.2 q.2.2) →
    Reps g w cells acells → afill acells as = some res → ∃ cells', Instr.fill place cells l = some cells' ∧ Reps g w cells' res
  | [], [], cells, acells, res, _, _, hr, h => by
    obtain rfl := Option.some.inj h
    exact ⟨cells, rfl, hr⟩
  | [], q :: as, _, _, _, hl, _, _, _ => by simp at hl
  | p :: l, [], _, _, _, hl, _, _, _ => by simp at hl
  | (i, v) :: l, (off, n, x) :: as, cells, acells, res, hl, hp, hr, h => by
    obtain ⟨hp1, hp2⟩ := hp 0 _ _ rfl rfl
    simp only at hp1 hp2
    simp only [afill] at h
    split at h <;> (try (cases h; done))
    rename_i hc
    obtain ⟨hfl, hn, hle⟩ := hc
    have hxt : x ≠ .top := by intro e; subst e; simp [AV.flat, AV.one] at hfl
    have hcs := hp2.cells hxt
    have hvs : v.cells.size = n := by rw [hcs.1, hn]
    have hsz : cells.size = acells.length := hr.1
    have hbad : ¬ (v.cells.size ≠ n ∨ off + v.cells.size > cells.size) := by omega
    have hbad' : (decide (v.cells.size ≠ n) || decide (off + v.cells.size > cells.size)) = false := by simpa using hbad
    simp only [Instr.fill, hp1]
    have hf := foldl_sets off v.cells.toList 0 cells
    have hfe : v.cells.zipIdx.foldl (fun cs (c, j) => cs.setIfInBounds (off + j) c) cells = (v.cells.toList.zipIdx 0).foldl (fun cs p => cs.setIfInBounds (off + p.2) p.1) cells := by
      rw [← Array.foldl_toList]
      simp
    rw [hfe]
    generalize (v.cells.toList.zipIdx 0).foldl (fun cs p => cs.setIfInBounds (off + p.2) p.1) cells = cells1 at hf
    have hr1 : Reps g w cells1 (acells.take off ++ x.cells ++ acells.drop (off + n)) := by
      refine ⟨by rw [hf.1]; simp; omega, fun k u y hu hy => ?_⟩
      rw [hf.2 k] at hu
      simp only [Array.length_toList, Nat.add_zero] at hu
      by_cases hk : off ≤ k ∧ k < off + n
      · rw [if_pos ⟨hk.1, by omega, by omega⟩] at hu
        have hy2 : x.cells[k - off]? = some y := by
          rw [List.append_assoc, List.getElem?_append_right (by simp; omega), List.getElem?_append_left (by simp; omega)] at hy
          simpa [Nat.min_eq_left (show off ≤ acells.length by omega)] using hy
        exact hcs.2 (k - off) u y (by simpa using hu) hy2
      · rw [if_neg (by omega)] at hu
        refine hr.2 k u y hu ?_
        by_cases hk2 : k < off
        · rw [List.append_assoc, List.getElem?_append_left (by simp; omega), List.getElem?_take, if_pos hk2] at hy
          exact hy
        · rw [List.getElem?_append_right (by simp; omega), List.getElem?_drop] at hy
          rw [← hy]
          congr 1
          simp
          omega
    have hif : (if v.cells.size ≠ n ∨ off + v.cells.size > cells.size then none else Instr.fill place cells1 l) = Instr.fill place cells1 l := if_neg hbad
    obtain ⟨cells2, h1, h2⟩ := fill_rep place l as cells1 _ res (by simpa using hl) (fun j p q h1 h2 => hp (j + 1) p q h1 h2) hr1 h
    refine ⟨cells2, ?_, h2⟩
    rw [← h1]
    simpa using hif
def tBuild (P : Program) (t : TypeId) : Option (List AV × (Nat → Option (Nat × Nat))) :=
  match P.info? t, P.underlying t with
  | some it, some (.array _ e) =>
    match it.zero, P.info? e with
    | some z, some ie => (z.cells.toList.mapM trV).map fun zs => (zs, fun i => some (i * ie.size, ie.size))
    | _, _ => none
  | some it, some (.struct fields) =>
    match it.zero, fields.toList.mapM (fun f => (P.info? f.type).map fun i => (f.offset, i.size)) with
    | some z, some places => (z.cells.toList.mapM trV).map fun zs => (zs, fun i => places.toArray[i]?)
    | _, _ => none
  | _, _ => none
theorem trV_reps : ∀ (l : List Value) (ys : List AV), l.mapM trV = some ys → Reps g w l.toArray ys := by
  intro l
  induction l with
  | nil => intro ys h; simp at h; subst h; exact ⟨rfl, fun i v y h => by simp at h⟩
  | cons v l ih =>
    intro ys h
    simp only [List.mapM_cons, Option.bind_eq_bind, Option.bind_eq_some_iff, Option.pure_def, Option.some.injEq] at h
    obtain ⟨y, hy, ys', hys, rfl⟩ := h
    have := ih _ hys
    refine ⟨by simpa using this.1, fun i u z hu hz => ?_⟩
    cases i with
    | zero => simp at hu hz; subst hu; subst hz; exact trV_rep hy
    | succ i => exact this.2 i u z (by simpa using hu) (by simpa using hz)
theorem run_tbuild {t : TypeId} {zs res : List AV} {place : Nat → Option (Nat × Nat)} (ht : tBuild P t = some (zs, place)) (parts : Array (Nat × Value)) (as : List (Nat × Nat × AV)) (hl : parts.size = as.length)
    (hp : ∀ (j : Nat) (p : Nat × Value) (q : Nat × Nat × AV), parts[j]? = some p → as[j]? = some q → place p.1 = some (q.1, q.2.1) ∧ Rep g w p.2 q.2.2) (h : afill zs as = some res) :
    ∃ v, (Instr.build t parts).run P w = .ok v w ∧ Rep g w v (.agg res) := by
  have key : ∀ z : Value, z.cells.toList.mapM trV = some zs → ∃ cells', Instr.fill place z.cells parts.toList = some cells' ∧ Reps g w cells' res := by
    intro z hz
    have h0 : Reps g w z.cells zs := by simpa using trV_reps (g := g) (w := w) _ _ hz
    exact fill_rep place parts.toList as z.cells zs res (by simpa using hl) (fun j p q h1 h2 => hp j p q (by simpa using h1) h2) h0 h
  unfold tBuild at ht
  split at ht <;> (try (cases ht; done))
  · rename_i it n e hi hu
    split at ht <;> (try (cases ht; done))
    rename_i z ie hz hie
    obtain ⟨zs', hzs, he⟩ := Option.map_eq_some_iff.1 ht
    simp only [Prod.mk.injEq] at he
    obtain ⟨rfl, rfl⟩ := he
    obtain ⟨cells', h1, h2⟩ := key z hzs
    refine ⟨_, run_build w t parts cells' ?_, .agg _ _ h2.1 h2.2⟩
    simp [Program.built, hi, hu, hz, hie, h1]
  · rename_i it fields hi hu
    split at ht <;> (try (cases ht; done))
    rename_i z places hz hpl
    obtain ⟨zs', hzs, he⟩ := Option.map_eq_some_iff.1 ht
    simp only [Prod.mk.injEq] at he
    obtain ⟨rfl, rfl⟩ := he
    obtain ⟨cells', h1, h2⟩ := key z hzs
    refine ⟨_, run_build w t parts cells' ?_, .agg _ _ h2.1 h2.2⟩
    simp only [Program.built, hi, hu, hz, hpl]
    exact h1
end
end Go.Proofs.YtmdgjfadbhenjaaGreatDoor.AL
/- The quiet operations, all of them in one: what they answer, and that the machine's operations answer so. -/
set_option linter.unusedVariables false
set_option linter.unusedSimpArgs false
namespace Go.Proofs.YtmdgjfadbhenjaaGreatDoor.AL
open Go
/-- A cut of an array that a row holds. -/
def asliceArr (H : AHeap) (sz n : Nat) : AV → Option AV → Option AV → Option AV
  | .ptr id gen o, lo, hi => match abound 0 lo, abound n hi with
    | some l, some h => match H.get id with
      | some (.row _ g cs) => if g = gen ∧ o + n * sz ≤ cs.length ∧ 0 ≤ l ∧ l ≤ h ∧ h ≤ n ∧ n ≤ 9223372036854775807 then (if l < n then some (.wr id gen (o + l.toNat * sz) (h.toNat - l.toNat) sz) else some .emp) else none
      | _ => none
    | _, _ => none
  | _, _, _ => none
inductive QOp where
  | move (x : AX)
  | pick (c x y : AX)
  | bin (op : BinOp) (x y : AX)
  | beq (neq : Bool) (x y : AX)
  | nil (k : NK) (neq : Bool) (x y : AX)
  | seq (ls : List Leaf) (neq : Bool) (x y : AX)
  | un (op : UnOp) (x : AX)
  | conv (k : IntKind) (x : AX)
  | same (x : AX)
  | b2s (x : AX)
  | build (zero : List AV) (parts : List (Nat × Nat × AX))
  | load (agg : Bool) (n : Nat) (x : AX)
  | loadr (agg : Bool) (n : Nat) (x : AX)
  | field (agg : Bool) (n off : Nat) (x : AX)
  | fieldAddr (off : Nat) (x : AX)
  | idxSl (sz : Nat) (x i : AX)
  | idxPt (sz n : Nat) (x i : AX)
  | idxStr (x i : AX)
  | idxArr (agg : Bool) (sz n : Nat) (x i : AX)
  | extract (i : Nat) (x : AX)
  | len (str : Bool) (x : AX)
  | num (n : Nat)
  | best (mx : Bool) (x y : AX)
  | mkFunc (fn : Fn) (first caps : List AX)
  | iface (t : TypeId) (x : AX)
  | sliceStr (x : AX) (lo hi : Option AX)
  | sliceSl (sz : Nat) (x : AX) (lo hi : Option AX)
  | sliceArr (sz n : Nat) (x : AX) (lo hi : Option AX)
  | nonil (x : AX)
  | cap (x : AX)
def acap : AV → Option AV
  | .nils => some (.int .i64 0)
  | .wc _ _ _ _ c _ => some (.int .i64 c)
  | _ => none
def abeq : AV → AV → Option Bool
  | .bool a, .bool b => some (a == b)
  | _, _ => none
def aconv (k : IntKind) : AV → Option AV
  | .int _ n => some (.int k (k.wrap n))
  | _ => none
def asame : AV → Option AV
  | .str s => some (.str s)
  | _ => none
def aextract (i : Nat) : AV → Option AV
  | .tup vs => vs[i]?
  | _ => none
def alenS : AV → Option AV
  | .str s => some (.int .i64 s.size)
  | _ => none
def alenL : AV → Option AV
  | .str _ => none
  | x => alen x
/-- What cells that nobody writes to hold. -/
def aloadr (agg : Bool) (n : Nat) : AV → Option AV
  | .rd ys => apart agg n 0 ys
  | _ => none
def aq (H : AHeap) (ρ : AX → AV) : QOp → Option AV
  | .move x => some (ρ x)
  | .pick c x y => match ρ c with
    | .bool b => some (if b then ρ x else ρ y)
    | _ => none
  | .bin op x y => abin op (ρ x) (ρ y)
  | .beq n x y => (abeq (ρ x) (ρ y)).map fun b => .bool (if n then !b else b)
  | .nil k n x y => (anil k (ρ x) (ρ y)).map fun b => .bool (if n then !b else b)
  | .seq ls n x y => (aseq ls (ρ x) (ρ y)).map fun b => .bool (if n then !b else b)
  | .un op x => aun op (ρ x)
  | .conv k x => aconv k (ρ x)
  | .same x => asame (ρ x)
  | .b2s x => ab2s H (ρ x)
  | .build z ps => (afill z (ps.map fun p => (p.1, p.2.1, ρ p.2.2))).map .agg
  | .load a n x => aload H a n (ρ x)
  | .loadr a n x => aloadr a n (ρ x)
  | .field a n o x => afield a n o (ρ x)
  | .fieldAddr o x => afieldAddr o (ρ x)
  | .idxSl sz x i => aidxSl sz (ρ x) (ρ i)
  | .idxPt sz n x i => aidxPt sz n (ρ x) (ρ i)
  | .idxStr x i => aidxStr (ρ x) (ρ i)
  | .idxArr a sz n x i => aidxArr a sz n (ρ x) (ρ i)
  | .extract i x => aextract i (ρ x)
  | .len s x => if s then alenS (ρ x) else alenL (ρ x)
  | .num n => some (.int .i64 n)
  | .best m x y => abest m (ρ x) (ρ y)
  | .mkFunc fn fs cs => some (.func fn (fs.map ρ) (cs.map ρ))
  | .iface t x => some (.iface t (ρ x))
  | .sliceStr x lo hi => asliceStr (ρ x) (lo.map ρ) (hi.map ρ)
  | .sliceSl sz x lo hi => asliceSl sz (ρ x) (lo.map ρ) (hi.map ρ)
  | .sliceArr sz n x lo hi => asliceArr H sz n (ρ x) (lo.map ρ) (hi.map ρ)
  | .nonil x => anonil (ρ x)
  | .cap x => acap (ρ x)
def tr2 (x y : Operand) (f : AX → AX → QOp) : Option QOp :=
  match trX x, trX y with
  | some a, some b => some (f a b)
  | _, _ => none
def trO : Option Operand → Option (Option AX)
  | none => some none
  | some x => (trX x).map some
def trParts (place : Nat → Option (Nat × Nat)) : List (Nat × Operand) → Option (List (Nat × Nat × AX))
  | [] => some []
  | (i, x) :: l => match place i, trX x, trParts place l with
    | some (o, n), some y, some r => some ((o, n, y) :: r)
    | _, _, _ => none
def trXs : List Operand → Option (List AX)
  | [] => some []
  | x :: l => match trX x, trXs l with
    | some y, some r => some (y :: r)
    | _, _ => none
def trEq (P : Program) (n : Bool) (t : TypeId) (x y : Operand) : Option QOp :=
  match P.underlying t with
  | some (.int _) | some .string => tr2 x y (.bin (if n then .neq else .eql))
  | some .bool => tr2 x y (.beq n)
  | some (.struct _) | some (.array _ _) => if P.eqGuardType P.depth t = false then (match leaves P 9 t with | some ls => tr2 x y (.seq ls n) | none => none) else none
  | _ => match tNil P t with
    | some k => if isC x = true ∨ isC y = true then tr2 x y (.nil k n) else none
    | none => none
def trBuiltin (P : Program) (b : Builtin) (args : List Operand) (ts : List TypeId) : Option QOp :=
  match b, args, ts with
  | .len, [x], [t] => match P.underlying t with
    | some .string => (trX x).map (.len true)
    | some (.slice _) => (trX x).map (.len false)
    | some (.array n _) => some (.num n)
    | _ => none
  | .min, [x, y], _ => tr2 x y (.best false)
  | .max, [x, y], _ => tr2 x y (.best true)
  | .cap, [x], [t] => match P.underlying t with
    | some (.slice _) => (trX x).map .cap
    | _ => none
  | _, _, _ => none
def isU8 (P : Program) (e : TypeId) : Bool := match P.underlying e with
  | some (.int .u8) => true
  | _ => false
def trQ (P : Program) : Op → Option QOp
  | .move x | .assign x => (trX x).map .move
  | .pick c x y => match trX c with
    | some c => tr2 x y (.pick c)
    | none => none
  | .binOp .eql t x y _ => trEq P false t x y
  | .binOp .neq t x y _ => trEq P true t x y
  | .binOp op _ x y _ => tr2 x y (.bin op)
  | .unOp op _ x => (trX x).map (.un op)
  | .convert src dst x => match P.underlying src, P.underlying dst with
    | some (.slice e), some .string => if isU8 P e = true then (trX x).map .b2s else none
    | some _, some (.int k) => (trX x).map (.conv k)
    | some _, some .string => (trX x).map .same
    | _, _ => none
  | .build t parts => match tBuild P t with
    | some (z, place) => (trParts place parts.toList).map (.build z)
    | none => none
  | .load t x => match tAgg P t, tSize P t with
    | some a, some n => (trX x).map (.load a n)
    | _, _ => none
  | .fieldAddr s x f => match tField P s f with
    | some o => (trX x).map (.fieldAddr o)
    | none => none
  | .field s x f => match tFieldV P s f with
    | some (a, n, o) => (trX x).map (.field a n o)
    | none => none
  | .indexAddr t x i => match tElem P t, tArr P t with
    | some (_, sz), _ => tr2 x i (.idxSl sz)
    | none, some (n, _, sz) => tr2 x i (.idxPt sz n)
    | none, none => none
  | .index t x i => match tArr P t with
    | some (n, e, sz) => match tAgg P e with
      | some a => tr2 x i (.idxArr a sz n)
      | none => none
    | none => match P.underlying t with
      | some .string => tr2 x i .idxStr
      | _ => none
  | .extract x i => (trX x).map (.extract i)
  | .makeFunc fn first caps => match trXs first.toList, trXs caps.toList with
    | some fs, some cs => some (.mkFunc fn fs cs)
    | _, _ => none
  | .makeInterface t x => if P.concrete t = true then (trX x).map (.iface t) else none
  | .slice t x lo hi none => match trX x, trO lo, trO hi with
    | some x, some lo, some hi => match tElem P t with
      | some (_, sz) => some (.sliceSl sz x lo hi)
      | none => match P.underlying t with
        | some .string => some (.sliceStr x lo hi)
        | some (.pointer arr) => (tArr P arr).map fun z => .sliceArr z.2.2 z.1 x lo hi
        | some (.array _ _) => (tArr P t).map fun z => .sliceArr z.2.2 z.1 x lo hi
        | _ => none
    | _, _, _ => none
  | .nilCheck x => (trX x).map .nonil
  | .call { callee := .builtin b, args := args, argTypes := ts } => trBuiltin P b args.toList ts.toList
  | _ => none
section
variable {P : Program} {g : Ghost} {w : World} {H : AHeap} {act : Act} {a : List AV}
theorem tr2_some {x y : Operand} {f : AX → AX → QOp} {q : QOp} (h : tr2 x y f = some q) : ∃ x' y', trX x = some x' ∧ trX y = some y' ∧ q = f x' y' := by
  unfold tr2 at h
  split at h <;> (try (cases h; done))
  exact ⟨_, _, by assumption, by assumption, (Option.some.inj h).symm⟩
theorem trO_rep (hR : RepAct g w act a) {x : Option Operand} {y : Option AX} (h : trO x = some y) : OptRep g w (x.map act.eval) (y.map (AX.ev a)) := by
  cases x with
  | none => obtain rfl := Option.some.inj h; trivial
  | some x =>
    obtain ⟨z, hz, rfl⟩ := Option.map_eq_some_iff.1 h
    exact trX_rep hR hz
theorem trXs_rep (hR : RepAct g w act a) : ∀ (l : List Operand) (ys : List AX), trXs l = some ys → Reps g w (l.map act.eval).toArray (ys.map (AX.ev a))
  | [], ys, h => by
    obtain rfl := Option.some.inj h
    exact ⟨rfl, fun i v y h => by simp at h⟩
  | x :: l, ys, h => by
    simp only [trXs] at h
    split at h <;> (try (cases h; done))
    rename_i y r hy hr
    obtain rfl := Option.some.inj h
    have ih := trXs_rep hR l r hr
    refine ⟨by simpa using ih.1, fun i v z h1 h2 => ?_⟩
    cases i with
    | zero => simp at h1 h2; subst h1; subst h2; exact trX_rep hR hy
    | succ i => exact ih.2 i v z (by simpa using h1) (by simpa using h2)
theorem trParts_rep (hR : RepAct g w act a) (place : Nat → Option (Nat × Nat)) : ∀ (l : List (Nat × Operand)) (ps : List (Nat × Nat × AX)), trParts place l = some ps →
    l.length = ps.length ∧ ∀ (j : Nat) (p : Nat × Operand) (q : Nat × Nat × AX), l[j]? = some p → ps[j]? = some q → place p.1 = some (q.1, q.2.1) ∧ Rep g w (act.eval p.2) (q.2.2.ev a)
  | [], ps, h => by
    obtain rfl := Option.some.inj h
    exact ⟨rfl, fun j p q h => by simp at h⟩
  | (i, x) :: l, ps, h => by
    simp only [trParts] at h
    split at h <;> (try (cases h; done))
    rename_i o n y r hp hy hr
    obtain rfl := Option.some.inj h
    have ih := trParts_rep hR place l r hr
    refine ⟨by simp [ih.1], fun j p q h1 h2 => ?_⟩
    cases j with
    | zero => simp at h1 h2; subst h1; subst h2; exact ⟨hp, trX_rep hR hy⟩
    | succ j => exact ih.2 j p q (by simpa using h1) (by simpa using h2)
theorem run_v {o : Oper} {s : Sem Value} {v : Value} {y : AV} (he : execOp act.eval o = (do pure (.value (← s)))) (hs : s.run P w = .ok v w) (hr : Rep g w v y) :
    ∃ v, (execOp act.eval o).run P w = .ok (.value v) w ∧ Rep g w v y := by
  refine ⟨v, ?_, hr⟩
  rw [he]
  simp [hs]
theorem aeq_sound {n : Bool} {t : TypeId} {x y : Operand} {q : QOp} (hR : RepAct g w act a) (h : trEq P n t x y = some q) {z : AV} (hq : aq H (AX.ev a) q = some z) :
    ∃ v, (do eqGuard (if n then .neq else .eql) t x y (act.eval x) (act.eval y); binOp (if n then .neq else .eql) t (act.eval x) (act.eval y) : Sem Value).run P w = .ok v w ∧ Rep g w v z := by
  have fin : ∀ {b : Bool}, ((do eqGuard .eql t x y (act.eval x) (act.eval y); binOp .eql t (act.eval x) (act.eval y) : Sem Value).run P w = .ok (.bool b) w ∧ (do eqGuard .neq t x y (act.eval x) (act.eval y); binOp .neq t (act.eval x) (act.eval y) : Sem Value).run P w = .ok (.bool !b) w) → some (AV.bool (if n then !b else b)) = some z →
      ∃ v, (do eqGuard (if n then .neq else .eql) t x y (act.eval x) (act.eval y); binOp (if n then .neq else .eql) t (act.eval x) (act.eval y) : Sem Value).run P w = .ok v w ∧ Rep g w v z := by
    intro b hb hz
    obtain rfl := Option.some.inj hz
    cases n
    · exact ⟨_, hb.1, .bool _⟩
    · exact ⟨_, hb.2, .bool _⟩
  have agg : ∀ ls, tAgg P t = some true → P.eqGuardType P.depth t = false → leaves P 9 t = some ls → tr2 x y (.seq ls n) = some q → ∃ v, (do eqGuard (if n then .neq else .eql) t x y (act.eval x) (act.eval y); binOp (if n then .neq else .eql) t (act.eval x) (act.eval y) : Sem Value).run P w = .ok v w ∧ Rep g w v z := by
    intro ls h1 h2 h3 h4
    obtain ⟨x', y', hx, hy, rfl⟩ := tr2_some h4
    simp only [aq] at hq
    obtain ⟨b, hb, hz⟩ := Option.map_eq_some_iff.1 hq
    exact fin (run_aseq h3 h1 h2 (trX_rep hR hx) (trX_rep hR hy) hb x y) (by rw [hz])
  unfold trEq at h
  split at h <;> rename_i hu
  · obtain ⟨x', y', hx, hy, rfl⟩ := tr2_some h
    simp only [aq] at hq
    exact run_abin P w _ t (trX_rep hR hx) (trX_rep hR hy) hq x y
  · obtain ⟨x', y', hx, hy, rfl⟩ := tr2_some h
    simp only [aq] at hq
    exact run_abin P w _ t (trX_rep hR hx) (trX_rep hR hy) hq x y
  · obtain ⟨x', y', hx, hy, rfl⟩ := tr2_some h
    simp only [aq] at hq
    obtain ⟨b, hb, hz⟩ := Option.map_eq_some_iff.1 hq
    have rx := trX_rep hR hx
    have ry := trX_rep hR hy
    unfold abeq at hb
    split at hb <;> (try (cases hb; done))
    rename_i p r h1 h2
    rw [h1] at rx
    rw [h2] at ry
    obtain rfl := Option.some.inj hb
    refine fin ?_ (by rw [hz])
    generalize act.eval x = u at rx
    generalize act.eval y = v at ry
    cases rx; cases ry
    have he : (Op.equal t (.bool p) (.bool r)).run P w = .ok (p == r) w := run_equalIn_bool' w 9999 t p r hu
    have e1 : binOp .eql t (.bool p) (.bool r) = (do pure (.bool (← Op.equal t (.bool p) (.bool r))) : Sem Value) := rfl
    have e2 : binOp .neq t (.bool p) (.bool r) = (do pure (.bool (!(← Op.equal t (.bool p) (.bool r)))) : Sem Value) := rfl
    rw [e1, e2]
    simp only [eqGuard_at_bool, Sem.run_bind, Sem.run_pure, Result.andThen_ok, he]
    exact ⟨trivial, trivial⟩
  · split at h <;> (try (cases h; done))
    split at h <;> (try (cases h; done))
    exact agg _ (by simp [tAgg, hu]) (by assumption) (by assumption) h
  · split at h <;> (try (cases h; done))
    split at h <;> (try (cases h; done))
    exact agg _ (by simp [tAgg, hu]) (by assumption) (by assumption) h
  · split at h <;> (try (cases h; done))
    rename_i k hk
    split at h <;> (try (cases h; done))
    rename_i hc
    obtain ⟨x', y', hx, hy, rfl⟩ := tr2_some h
    simp only [aq] at hq
    obtain ⟨b, hb, hz⟩ := Option.map_eq_some_iff.1 hq
    exact fin (run_anil hk (trX_rep hR hx) (trX_rep hR hy) hb x y hc) (by rw [hz])
theorem isU8_spec {e : TypeId} (h : isU8 P e = true) : P.underlying e = some (.int .u8) := by
  unfold isU8 at h
  split at h
  · assumption
  · cases h
theorem bool_inv {v : Value} {b : Bool} (h : Rep g w v (.bool b)) : v = .bool b := by cases h; rfl
theorem int_inv {v : Value} {k : IntKind} {n : Int} (h : Rep g w v (.int k n)) : v = .int k n := by cases h; rfl
theorem str_inv {v : Value} {s : ByteArray} (h : Rep g w v (.str s)) : v = .string s := by cases h; rfl
theorem iface_inv {v : Value} {t : TypeId} {y : AV} (h : Rep g w v (.iface t y)) : ∃ u, v = .iface t u := by cases h; exact ⟨_, rfl⟩
theorem run_sliceArr {t arr e : TypeId} {sz n : Nat} {v : Value} {lo hi : Option Value} {x y : AV} {lo' hi' : Option AV} (hp : P.underlying t = some (.pointer arr)) (ht : tArr P arr = some (n, e, sz)) (hS : Sim g w H) (hx : Rep g w v x) (hlo : OptRep g w lo lo') (hhi : OptRep g w hi hi') (h : asliceArr H sz n x lo' hi' = some y) :
    ∃ u, (Instr.sliceAt t v lo hi none).run P w = .ok u w ∧ Rep g w u y := by
  obtain ⟨hu, hs⟩ := tArr_spec ht
  cases x with
  | ptr id gen o =>
    simp only [asliceArr] at h
    split at h <;> (try (cases h; done))
    rename_i l r hl hr
    split at h <;> (try (cases h; done))
    rename_i e2 g2 cs hg
    split at h <;> (try (cases h; done))
    rename_i hc
    obtain ⟨rfl, c0, c1, c2, c3, c4⟩ := hc
    obtain ⟨b, rfl, hb⟩ := hx.ptr_inv
    have hbn := run_bounds (P := P) (w := w) (g := g) false n n hlo hhi hl hr c1 c2 c3
    have hrun : (Instr.sliceAt t (.pointer (some ⟨b, o, none⟩)) lo hi none).run P w = .ok (.slice (some (if n = l.toNat then ⟨b, o, none⟩ else (⟨b, o, none⟩ : Addr).add (l.toNat * sz))) (r.toNat - l.toNat) (n - l.toNat)) w := by
      simp [Instr.sliceAt, Instr.slice, run_underlying hp, run_underlying hu, hbn, run_sizeOf hs, asAddr]
    refine ⟨_, hrun, ?_⟩
    obtain ⟨b', cur, fl, fh, q1, q2, q3, q4, q5⟩ := hS.live id _ hg
    rw [hb] at q1
    obtain rfl := Option.some.inj q1
    have hsh : w.shape? b = some (e2, cur.size) := by simp [World.shape?, q2]
    split at h
    · rename_i hd
      obtain rfl := Option.some.inj h
      rw [if_neg (by omega), Addr.add_lit]
      refine .wr _ _ _ _ _ b _ e2 cur.size hb hsh ?_ (by omega) (by omega)
      have : l.toNat * sz + (n - l.toNat) * sz = n * sz := by rw [← Nat.add_mul]; congr 1; omega
      omega
    · obtain rfl := Option.some.inj h
      rw [show r.toNat - l.toNat = 0 by omega]
      exact .emp _ _
  | _ => simp [asliceArr] at h
theorem run_sliceArr0 {t e : TypeId} {sz n : Nat} {v : Value} {lo hi : Option Value} {x y : AV} {lo' hi' : Option AV} (ht : tArr P t = some (n, e, sz)) (hS : Sim g w H) (hx : Rep g w v x) (hlo : OptRep g w lo lo') (hhi : OptRep g w hi hi') (h : asliceArr H sz n x lo' hi' = some y) :
    ∃ u, (Instr.sliceAt t v lo hi none).run P w = .ok u w ∧ Rep g w u y := by
  obtain ⟨hu, hs⟩ := tArr_spec ht
  cases x with
  | ptr id gen o =>
    simp only [asliceArr] at h
    split at h <;> (try (cases h; done))
    rename_i l r hl hr
    split at h <;> (try (cases h; done))
    rename_i e2 g2 cs hg
    split at h <;> (try (cases h; done))
    rename_i hc
    obtain ⟨rfl, c0, c1, c2, c3, c4⟩ := hc
    obtain ⟨b, rfl, hb⟩ := hx.ptr_inv
    have hbn := run_bounds (P := P) (w := w) (g := g) false n n hlo hhi hl hr c1 c2 c3
    have hrun : (Instr.sliceAt t (.pointer (some ⟨b, o, none⟩)) lo hi none).run P w = .ok (.slice (some (if n = l.toNat then ⟨b, o, none⟩ else (⟨b, o, none⟩ : Addr).add (l.toNat * sz))) (r.toNat - l.toNat) (n - l.toNat)) w := by
      simp [Instr.sliceAt, run_underlying hu, hbn, run_sizeOf hs, Instr.sureAddr]
    refine ⟨_, hrun, ?_⟩
    obtain ⟨b', cur, fl, fh, q1, q2, q3, q4, q5⟩ := hS.live id _ hg
    rw [hb] at q1
    obtain rfl := Option.some.inj q1
    have hsh : w.shape? b = some (e2, cur.size) := by simp [World.shape?, q2]
    split at h
    · rename_i hd
      obtain rfl := Option.some.inj h
      rw [if_neg (by omega), Addr.add_lit]
      refine .wr _ _ _ _ _ b _ e2 cur.size hb hsh ?_ (by omega) (by omega)
      have : l.toNat * sz + (n - l.toNat) * sz = n * sz := by rw [← Nat.add_mul]; congr 1; omega
      omega
    · obtain rfl := Option.some.inj h
      rw [show r.toNat - l.toNat = 0 by omega]
      exact .emp _ _
  | _ => simp [asliceArr] at h
theorem aq_sound {o : Oper} {q : QOp} {y : AV} (h : trQ P o.op = some q) (hS : Sim g w H) (hR : RepAct g w act a) (hq : aq H (AX.ev a) q = some y) :
    ∃ v, (execOp act.eval o).run P w = .ok (.value v) w ∧ Rep g w v y := by
  have one : ∀ {x : Operand} {f : AX → QOp}, (trX x).map f = some q → ∃ x', trX x = some x' ∧ q = f x' := by
    intro x f hh
    obtain ⟨x', h1, h2⟩ := Option.map_eq_some_iff.1 hh
    exact ⟨x', h1, h2.symm⟩
  have fin : ∀ {s : Sem Value}, execOp act.eval o = (do pure (.value (← s))) → (∃ v, s.run P w = .ok v w ∧ Rep g w v y) → ∃ v, (execOp act.eval o).run P w = .ok (.value v) w ∧ Rep g w v y := by
    intro s h1 ⟨v, h2, h3⟩
    exact run_v h1 h2 h3
  unfold trQ at h
  split at h <;> rename_i hop <;> (try (cases h; done))
  · obtain ⟨x', hx, rfl⟩ := one h
    obtain rfl := Option.some.inj hq
    exact ⟨_, by simp [execOp, hop], trX_rep hR hx⟩
  · obtain ⟨x', hx, rfl⟩ := one h
    obtain rfl := Option.some.inj hq
    exact ⟨_, by simp [execOp, hop], trX_rep hR hx⟩
  · split at h <;> (try (cases h; done))
    rename_i c' hc
    obtain ⟨x', y', hx, hy, rfl⟩ := tr2_some h
    simp only [aq] at hq
    split at hq <;> (try (cases hq; done))
    rename_i b hb
    obtain rfl := Option.some.inj hq
    have hcr := trX_rep hR hc
    rw [hb] at hcr
    have hcv := bool_inv hcr
    refine ⟨if b then _ else _, by simp [execOp, hop, hcv, asBool]; rfl, ?_⟩
    cases b
    · exact trX_rep hR hy
    · exact trX_rep hR hx
  · exact fin (by simp only [execOp, hop] <;> rfl) (aeq_sound hR h hq)
  · exact fin (by simp only [execOp, hop] <;> rfl) (aeq_sound hR h hq)
  · obtain ⟨x', y', hx, hy, rfl⟩ := tr2_some h
    exact fin (by simp only [execOp, hop] <;> rfl) (run_abin P w _ _ (trX_rep hR hx) (trX_rep hR hy) hq _ _)
  · obtain ⟨x', hx, rfl⟩ := one h
    exact fin (by simp only [execOp, hop] <;> rfl) (run_aun (trX_rep hR hx) hq)
  · split at h <;> (try (cases h; done))
    · rename_i e hs hd
      split at h <;> (try (cases h; done))
      rename_i he
      obtain ⟨x', hx, rfl⟩ := one h
      exact fin (by simp only [execOp, hop] <;> rfl) (run_ab2s hS hs (isU8_spec he) hd (trX_rep hR hx) hq)
    · rename_i d k hs hd
      obtain ⟨x', hx, rfl⟩ := one h
      refine fin (by simp only [execOp, hop] <;> rfl) ?_
      have hr := trX_rep hR hx
      simp only [aq] at hq
      unfold aconv at hq
      split at hq <;> (try (cases hq; done))
      rename_i k' n hn
      rw [hn] at hr
      obtain rfl := Option.some.inj hq
      rw [int_inv hr]
      refine ⟨_, ?_, .int _ _⟩
      simp [convert, run_underlying hs, run_underlying hd, Conv.intToInt]
    · rename_i d _ hs hd
      obtain ⟨x', hx, rfl⟩ := one h
      refine fin (by simp only [execOp, hop] <;> rfl) ?_
      have hr := trX_rep hR hx
      simp only [aq] at hq
      unfold asame at hq
      split at hq <;> (try (cases hq; done))
      rename_i s hn
      rw [hn] at hr
      obtain rfl := Option.some.inj hq
      rw [str_inv hr]
      refine ⟨.string s, ?_, .str _⟩
      simp [convert, run_underlying hs, run_underlying hd]
  · split at h <;> (try (cases h; done))
    rename_i z place hb
    obtain ⟨ps, hps, rfl⟩ := Option.map_eq_some_iff.1 h
    simp only [aq] at hq
    obtain ⟨res, hres, rfl⟩ := Option.map_eq_some_iff.1 hq
    obtain ⟨hl, hp⟩ := trParts_rep hR place _ _ hps
    refine fin (by simp only [execOp, hop] <;> rfl) (run_tbuild hb _ _ (by simpa using hl) (fun j p q h1 h2 => ?_) hres)
    rw [Array.getElem?_map] at h1
    rw [List.getElem?_map] at h2
    obtain ⟨p', hp1, rfl⟩ := Option.map_eq_some_iff.1 h1
    obtain ⟨q', hq1, rfl⟩ := Option.map_eq_some_iff.1 h2
    exact hp j p' q' (by simpa using hp1) hq1
  · split at h <;> (try (cases h; done))
    rename_i ag n ha hn
    obtain ⟨x', hx, rfl⟩ := one h
    exact fin (by simp only [execOp, hop] <;> rfl) (run_aload hS ha hn (trX_rep hR hx) hq)
  · split at h <;> (try (cases h; done))
    rename_i off hf
    obtain ⟨x', hx, rfl⟩ := one h
    exact fin (by simp only [execOp, hop] <;> rfl) (run_fieldAddr hf (trX_rep hR hx) hq)
  · split at h <;> (try (cases h; done))
    rename_i ag n off hf
    obtain ⟨x', hx, rfl⟩ := one h
    exact fin (by simp only [execOp, hop] <;> rfl) (run_field hf (trX_rep hR hx) hq)
  · split at h <;> (try (cases h; done))
    · rename_i e sz he
      obtain ⟨x', y', hx, hy, rfl⟩ := tr2_some h
      exact fin (by simp only [execOp, hop] <;> rfl) (run_idxSl he (trX_rep hR hx) (trX_rep hR hy) hq)
    · rename_i n e sz _ he
      obtain ⟨x', y', hx, hy, rfl⟩ := tr2_some h
      exact fin (by simp only [execOp, hop] <;> rfl) (run_idxPt he (trX_rep hR hx) (trX_rep hR hy) hq)
  · split at h <;> (try (cases h; done))
    · rename_i n e sz he
      split at h <;> (try (cases h; done))
      rename_i ag ha
      obtain ⟨x', y', hx, hy, rfl⟩ := tr2_some h
      exact fin (by simp only [execOp, hop] <;> rfl) (run_idxArr he ha (trX_rep hR hx) (trX_rep hR hy) hq)
    · split at h <;> (try (cases h; done))
      rename_i hu
      obtain ⟨x', y', hx, hy, rfl⟩ := tr2_some h
      exact fin (by simp only [execOp, hop] <;> rfl) (run_idxStr hu (trX_rep hR hx) (trX_rep hR hy) hq)
  · obtain ⟨x', hx, rfl⟩ := one h
    refine fin (by simp only [execOp, hop] <;> rfl) ?_
    have hr := trX_rep hR hx
    simp only [aq] at hq
    unfold aextract at hq
    split at hq <;> (try (cases hq; done))
    rename_i vs hn
    rw [hn] at hr
    obtain ⟨us, hus, hreps⟩ := hr.tup_inv
    obtain ⟨u, hu, hrep⟩ := hreps.get hq
    exact ⟨u, by simp [Instr.extract, hus, hu], hrep⟩
  · split at h <;> (try (cases h; done))
    rename_i fs cs h1 h2
    obtain rfl := Option.some.inj h
    obtain rfl := Option.some.inj hq
    have r1 := trXs_rep hR _ _ h1
    have r2 := trXs_rep hR _ _ h2
    refine fin (by simp only [execOp, hop] <;> rfl) ⟨_, by simp [Instr.makeFunc]; rfl, ?_⟩
    exact .func _ _ _ _ _ (by simpa using r1.1) (by simpa using r2.1) (fun i v y h1 h2 => r1.2 i v y (by simpa using h1) h2) (fun i v y h1 h2 => r2.2 i v y (by simpa using h1) h2)
  · split at h <;> (try (cases h; done))
    rename_i hc
    obtain ⟨x', hx, rfl⟩ := one h
    obtain rfl := Option.some.inj hq
    exact fin (by simp only [execOp, hop] <;> rfl) ⟨_, run_makeInterface w _ _ hc, .iface _ _ _ (trX_rep hR hx)⟩
  · split at h <;> (try (cases h; done))
    rename_i x' lo' hi' hx hlo hhi
    split at h
    · rename_i e sz he
      obtain rfl := Option.some.inj h
      exact fin (by simp only [execOp, hop] <;> rfl) (run_sliceSl he (trX_rep hR hx) (trO_rep hR hlo) (trO_rep hR hhi) hq)
    · split at h <;> (try (cases h; done))
      · rename_i hu
        obtain rfl := Option.some.inj h
        exact fin (by simp only [execOp, hop] <;> rfl) (run_sliceStr hu (trX_rep hR hx) (trO_rep hR hlo) (trO_rep hR hhi) hq)
      · rename_i arr hu
        obtain ⟨z, hz, rfl⟩ := Option.map_eq_some_iff.1 h
        obtain ⟨n, e, sz⟩ := z
        exact fin (by simp only [execOp, hop] <;> rfl) (run_sliceArr hu hz hS (trX_rep hR hx) (trO_rep hR hlo) (trO_rep hR hhi) hq)
      · obtain ⟨z, hz, rfl⟩ := Option.map_eq_some_iff.1 h
        obtain ⟨n, e, sz⟩ := z
        exact fin (by simp only [execOp, hop] <;> rfl) (run_sliceArr0 hz hS (trX_rep hR hx) (trO_rep hR hlo) (trO_rep hR hhi) hq)
  · obtain ⟨x', hx, rfl⟩ := one h
    have hr := trX_rep hR hx
    simp only [aq] at hq
    unfold anonil at hq
    split at hq <;> (try (cases hq; done)) <;> rename_i hn <;> rw [hn] at hr <;> obtain rfl := Option.some.inj hq
    · obtain ⟨b, hv, _⟩ := hr.ptr_inv
      exact ⟨_, by simp [execOp, hop, hv]; rfl, by rw [hv] at hr; exact hr⟩
    · obtain ⟨b, o, u, hv, _⟩ := hr.rd_inv
      exact ⟨_, by simp [execOp, hop, hv]; rfl, by rw [hv] at hr; exact hr⟩
    · obtain ⟨fs, cs, hv, _⟩ := hr.func_inv
      exact ⟨_, by simp [execOp, hop, hv]; rfl, by rw [hv] at hr; exact hr⟩
    · obtain ⟨v, hv⟩ := iface_inv hr
      exact ⟨_, by simp [execOp, hop, hv]; rfl, by rw [hv] at hr; exact hr⟩
  · rename_i b args ts
    obtain ⟨args⟩ := args
    obtain ⟨ts⟩ := ts
    unfold trBuiltin at h
    split at h <;> (try (cases h; done))
    · rename_i x t hargs hts
      simp only at hargs hts
      subst hargs; subst hts
      have hex : execOp act.eval o = (do pure (.value (← Builtin.len_ #[t] o.type #[act.eval x]))) := by
        simp [execOp, hop, resolve, invoke, builtin]
      split at h <;> (try (cases h; done))
      · rename_i hu
        obtain ⟨x', hx, rfl⟩ := one h
        have hr := trX_rep hR hx
        simp only [aq, if_true] at hq
        unfold alenS at hq
        split at hq <;> (try (cases hq; done))
        rename_i s hn
        rw [hn] at hr
        obtain rfl := Option.some.inj hq
        exact fin hex ⟨_, by simp [Builtin.len_, run_underlying hu, str_inv hr, goInt], .int _ _⟩
      · rename_i e hu
        obtain ⟨x', hx, rfl⟩ := one h
        simp only [aq, Bool.false_eq_true, if_false] at hq
        unfold alenL at hq
        split at hq <;> (try (cases hq; done))
        rename_i hns
        exact fin hex (run_alen (by simp [tLen, hu]) (trX_rep hR hx) hq (fun s hs => absurd hs (hns s)) (fun _ => ⟨e, hu⟩))
      · rename_i n e hu
        obtain rfl := Option.some.inj h
        obtain rfl := Option.some.inj hq
        exact fin hex ⟨_, by simp [Builtin.len_, run_underlying hu, goInt], .int _ _⟩
    · rename_i x z hargs
      simp only at hargs
      subst hargs
      obtain ⟨x', y', hx, hy, rfl⟩ := tr2_some h
      exact fin (s := Builtin.min_ ⟨ts⟩ o.type #[act.eval x, act.eval z]) (by simp [execOp, hop, resolve, invoke, builtin]) (run_abest (trX_rep hR hx) (trX_rep hR hy) false hq ⟨ts⟩ o.type)
    · rename_i x z hargs
      simp only at hargs
      subst hargs
      obtain ⟨x', y', hx, hy, rfl⟩ := tr2_some h
      exact fin (s := Builtin.max_ ⟨ts⟩ o.type #[act.eval x, act.eval z]) (by simp [execOp, hop, resolve, invoke, builtin]) (run_abest (trX_rep hR hx) (trX_rep hR hy) true hq ⟨ts⟩ o.type)
    · rename_i x t hargs hts
      simp only at hargs hts
      subst hargs; subst hts
      have hex : execOp act.eval o = (do pure (.value (← Builtin.cap_ #[t] o.type #[act.eval x]))) := by
        simp [execOp, hop, resolve, invoke, builtin]
      split at h <;> (try (cases h; done))
      rename_i e hu
      obtain ⟨x', hx, rfl⟩ := one h
      have hr := trX_rep hR hx
      simp only [aq] at hq
      unfold acap at hq
      split at hq <;> (try (cases hq; done))
      · rename_i hn
        rw [hn] at hr
        obtain rfl := Option.some.inj hq
        generalize act.eval x = u at hr hex
        cases hr
        exact fin hex ⟨_, by simp [Builtin.cap_, run_underlying hu, goInt], .int _ _⟩
      · rename_i hn
        rw [hn] at hr
        obtain rfl := Option.some.inj hq
        obtain ⟨b, e', n', hv, _⟩ := hr.wc_inv
        rw [hv] at hex
        exact fin hex ⟨_, by simp [Builtin.cap_, run_underlying hu, goInt], .int _ _⟩
end
end Go.Proofs.YtmdgjfadbhenjaaGreatDoor.AL
/- Memory made and written: how the plain picture goes along with the machine's blocks. -/
set_option linter.unusedVariables false
set_option linter.unusedSimpArgs false
namespace Go.Proofs.YtmdgjfadbhenjaaGreatDoor.AL
open Go
section
variable {P : Program} {g : Ghost} {w w' : World} {H : AHeap}
theorem RepObj.grow {g' : Ghost} (h : Grow g w g' w') {id : Nat} {o : AObj} (hr : RepObj g w id o) (hb : ∀ b, g.m id o.gen = some b → w'.heap[b]? = w.heap[b]?) : RepObj g' w' id o := by
  cases o with
  | row e gen cs =>
    obtain ⟨b, cur, lo, hi, h1, h2, h3, h4, h5⟩ := hr
    refine ⟨b, cur, lo, hi, h.m _ _ _ h1, by rw [hb b h1]; exact h2, h3, h4, fun i y hy => ?_⟩
    obtain ⟨u, hu, hrep⟩ := h5 i y hy
    exact ⟨u, hu, hrep.grow h⟩
  | map es =>
    obtain ⟨b, ms, clock, h1, h2, h3, h4⟩ := hr
    exact ⟨b, ms, clock, h.m _ _ _ h1, by rw [hb b h1]; exact h2, h3, fun i e x he hx => ⟨(h4 i e x he hx).1.grow h, (h4 i e x he hx).2.grow h⟩⟩
  | iter s pos =>
    obtain ⟨b, h1, h2⟩ := hr
    exact ⟨b, h.m _ _ _ h1, by rw [hb b h1]; exact h2⟩
theorem RepObj.ext {g' : Ghost} (h : Ext g w g' w') {id : Nat} {o : AObj} (hr : RepObj g w id o) (hb : ∀ b, g.m id o.gen = some b → w'.heap[b]? = w.heap[b]?) : RepObj g' w' id o := hr.grow h.grow hb
/-- The ghost with one row more. -/
def Ghost.add (g : Ghost) (id gen b : Nat) : Ghost where
  m i k := if i = id ∧ k = gen then some b else g.m i k
  Z := g.Z
/-- A new block. -/
theorem shape_push (o : Obj) (hh : w'.heap = w.heap.push o) {b : Nat} {s : TypeId × Nat} (h : w.shape? b = some s) : w'.shape? b = some s := by
  unfold World.shape? at h ⊢
  have hb : b < w.heap.size := by
    rcases Nat.lt_or_ge b w.heap.size with h1 | h1
    · exact h1
    · rw [Array.getElem?_eq_none h1] at h; cases h
  rw [hh, Array.getElem?_push, if_neg (by omega)]
  exact h
theorem heap_push_old (o : Obj) (hh : w'.heap = w.heap.push o) {b : Nat} (hb : b < w.heap.size) : w'.heap[b]? = w.heap[b]? := by
  rw [hh, Array.getElem?_push, if_neg (by omega)]
theorem ext_push {o : Obj} (hS : Sim g w H) (hh : w'.heap = w.heap.push o) (h1 : w'.os = w.os) (h2 : w'.tape = w.tape) (h3 : w'.output = w.output) {id gen : Nat} (hn : g.m id gen = none) (b : Nat) (hbn : w.heap.size ≤ b) : Ext g w (g.add id gen b) w' := by
  refine ⟨fun i k b' hb => ?_, fun _ h => h, fun b' hb => heap_push_old o hh (hS.zlt b' hb), fun b' s h => shape_push o hh h, by rw [hh]; simp, h1, h2, h3, fun k hk q => ?_, fun k hk _ => heap_push_old o hh hk⟩
  rotate_left
  · rcases q with q | ⟨i, j, q⟩
    · exact .inl q
    · simp only [Ghost.add] at q
      split at q
      · obtain rfl := Option.some.inj q
        omega
      · exact .inr ⟨i, j, q⟩
  simp only [Ghost.add]
  split
  · rename_i hc
    obtain ⟨rfl, rfl⟩ := hc
    rw [hn] at hb; cases hb
  · exact hb
theorem m_new (hS : Sim g w H) (gen : Nat) : g.m H.next gen = none := by
  cases h : g.m H.next gen with
  | none => rfl
  | some b => exact absurd (hS.mlt _ _ _ h).1 (by omega)
theorem sim_push {e : TypeId} {us : Array Value} {ys : List AV} {pad : Array Value} {lo hi : Nat} (hS : Sim g w H) (hr : Reps g w us ys) (hh : w'.heap = w.heap.push (.cells (us ++ pad) e (lo, hi))) (hfr : ∀ i, i < (us ++ pad).size + tailN e → ¬ (lo ≤ i ∧ i < hi))
    (h1 : w'.os = w.os) (h2 : w'.tape = w.tape) (h3 : w'.output = w.output) :
    Ext g w (g.add H.next 0 w.heap.size) w' ∧ Sim (g.add H.next 0 w.heap.size) w' (H.push (.row e 0 ys)) ∧ (g.add H.next 0 w.heap.size).m H.next 0 = some w.heap.size ∧ w'.shape? w.heap.size = some (e, (us ++ pad).size) := by
  have hE := ext_push hS hh h1 h2 h3 (m_new hS 0) w.heap.size (Nat.le_refl _)
  have hnew : w'.heap[w.heap.size]? = some (.cells (us ++ pad) e (lo, hi)) := by rw [hh]; simp
  have hm : (g.add H.next 0 w.heap.size).m H.next 0 = some w.heap.size := by simp [Ghost.add]
  have hold : ∀ id gen b, (g.add H.next 0 w.heap.size).m id gen = some b → (id = H.next ∧ gen = 0 ∧ b = w.heap.size) ∨ g.m id gen = some b := by
    intro id gen b h
    simp only [Ghost.add] at h
    split at h
    · rename_i hc; exact .inl ⟨hc.1, hc.2, (Option.some.inj h).symm⟩
    · exact .inr h
  have hlive : ∀ id o, H.get id = some o → ∀ b, (g.add H.next 0 w.heap.size).m id o.gen = some b → g.m id o.gen = some b := by
    intro id o ho b hb
    rcases hold _ _ _ hb with ⟨h, _⟩ | h
    · have := H.lt ho; omega
    · exact h
  refine ⟨hE, ⟨fun b hb => ?_, fun id gen b hb => ?_, fun id o ho => ?_, fun id id' o o' b ho ho' hb hb' => ?_, fun id o b ho hb => ?_, fun id o gen b ho hb => ?_, hS.var.ext hE⟩, hm, by simp [World.shape?, hnew]⟩
  · have := hS.zlt b hb; rw [hh]; simp; omega
  · rw [hh, push_next]
    rcases hold _ _ _ hb with ⟨rfl, rfl, rfl⟩ | h
    · simp
    · have := hS.mlt _ _ _ h
      simp
      omega
  · rw [push_get] at ho
    split at ho
    · rename_i hid; subst hid
      obtain rfl := Option.some.inj ho
      refine ⟨w.heap.size, us ++ pad, lo, hi, hm, hnew, hfr, by simp [hr.1], fun i y hy => ?_⟩
      obtain ⟨u, hu, hrep⟩ := hr.get hy
      have hi : i < us.size := (Array.getElem?_eq_some_iff.1 hu).1
      exact ⟨u, by rw [Array.getElem?_append_left hi]; exact hu, hrep.ext hE⟩
    · exact (hS.live id o ho).ext hE (fun b hb => heap_push_old _ hh (hS.mlt _ _ _ hb).2)
  · rw [push_get] at ho ho'
    split at ho
    · rename_i h4
      split at ho'
      · rename_i h5; rw [h4, h5]
      · obtain rfl := Option.some.inj ho
        have h6 := hlive _ _ ho' _ hb'
        have h7 := (hS.mlt _ _ _ h6).2
        rw [h4] at hb
        simp only [AObj.gen] at hb
        rw [hm] at hb
        obtain rfl := Option.some.inj hb
        omega
    · split at ho'
      · rename_i h5
        obtain rfl := Option.some.inj ho'
        have h6 := hlive _ _ ho _ hb
        have h7 := (hS.mlt _ _ _ h6).2
        rw [h5] at hb'
        simp only [AObj.gen] at hb'
        rw [hm] at hb'
        obtain rfl := Option.some.inj hb'
        omega
      · exact hS.inj _ _ _ _ b ho ho' (hlive _ _ ho _ hb) (hlive _ _ ho' _ hb')
  · rw [push_get] at ho
    split at ho
    · rename_i hid; subst hid
      obtain rfl := Option.some.inj ho
      simp only [AObj.gen] at hb
      rw [hm] at hb
      obtain rfl := Option.some.inj hb
      intro hz
      have := hS.zlt _ hz
      omega
    · exact hS.nz id o b ho (hlive _ _ ho _ hb)
  · rw [push_get] at ho
    split at ho
    · rename_i hid; subst hid
      obtain rfl := Option.some.inj ho
      rcases hold _ _ _ hb with ⟨_, h, _⟩ | h
      · simp [AObj.gen, h]
      · rw [m_new hS gen] at h; cases h
    · rcases hold _ _ _ hb with ⟨h, _⟩ | h
      · have := H.lt ho; omega
      · exact hS.gen id o gen b ho h
/-- A block's cells other ones, of as many; the row is in its next state, or in the same one. -/
theorem sim_cells {id gen gen' b : Nat} {e : TypeId} {cs ys : List AV} {cur cur' : Array Value} {lo hi : Nat} (hS : Sim g w H) (ho : H.get id = some (.row e gen cs)) (hb : g.m id gen = some b) (hg : gen' = gen ∨ gen' = gen + 1)
    (hc : w.heap[b]? = some (.cells cur e (lo, hi))) (hfr : ∀ i, i < cur.size + tailN e → ¬ (lo ≤ i ∧ i < hi)) (hh : w'.heap = w.heap.setIfInBounds b (.cells cur' e (lo, hi))) (hsz : cur'.size = cur.size) (hl : ys.length ≤ cur.size)
    (hr : ∀ (i : Nat) (y : AV), ys[i]? = some y → ∃ u, cur'[i]? = some u ∧ Rep g w u y) (h1 : w'.os = w.os) (h2 : w'.tape = w.tape) (h3 : w'.output = w.output) :
    Ext g w (g.add id gen' b) w' ∧ Sim (g.add id gen' b) w' (H.set id (.row e gen' ys)) ∧ (g.add id gen' b).m id gen' = some b := by
  have hbl : b < w.heap.size := (hS.mlt _ _ _ hb).2
  have hidl : id < H.next := (hS.mlt _ _ _ hb).1
  have hoth : ∀ k, k ≠ b → w'.heap[k]? = w.heap[k]? := by
    intro k hk
    rw [hh, Array.getElem?_setIfInBounds_ne (Ne.symm hk)]
  have hnew : w'.heap[b]? = some (.cells cur' e (lo, hi)) := by
    rw [hh, Array.getElem?_setIfInBounds_self_of_lt hbl]
  have hm : (g.add id gen' b).m id gen' = some b := by simp [Ghost.add]
  have hnz : ¬ g.Z b := hS.nz id _ b ho hb
  have hsame : ∀ k, g.m id gen' = some k → k = b := by
    intro k hk
    rcases hg with rfl | rfl
    · rw [hb] at hk; exact (Option.some.inj hk).symm
    · have := hS.gen id _ _ _ ho hk
      simp only [AObj.gen] at this
      omega
  have hE : Ext g w (g.add id gen' b) w' := by
    refine ⟨fun i k b' hb' => ?_, fun _ h => h, fun b' hb' => hoth b' (fun e => hnz (e ▸ hb')), fun b' s h => ?_, by rw [hh]; simp, h1, h2, h3, fun k hk q => ?_, fun k hk q => hoth k (fun e => q (.inr ⟨id, gen, by rw [e]; exact hb⟩))⟩
    rotate_left 2
    · rcases q with q | ⟨i, j, q⟩
      · exact .inl q
      · simp only [Ghost.add] at q
        split at q
        · obtain rfl := Option.some.inj q
          exact .inr ⟨id, gen, hb⟩
        · exact .inr ⟨i, j, q⟩
    · simp only [Ghost.add]
      split
      · rename_i hcc
        obtain ⟨rfl, rfl⟩ := hcc
        rw [hsame _ hb']
      · exact hb'
    · unfold World.shape? at h ⊢
      by_cases hk : b' = b
      · subst hk
        rw [hc] at h
        rw [hnew]
        simp only at h ⊢
        rw [hsz]
        exact h
      · rw [hoth b' hk]
        exact h
  have hold : ∀ i k c, (g.add id gen' b).m i k = some c → (i = id ∧ k = gen' ∧ c = b) ∨ g.m i k = some c := by
    intro i k c h
    simp only [Ghost.add] at h
    split at h
    · rename_i hcc; exact .inl ⟨hcc.1, hcc.2, (Option.some.inj h).symm⟩
    · exact .inr h
  have hget : ∀ i o, (H.set id (.row e gen' ys)).get i = some o → (i = id ∧ o = .row e gen' ys) ∨ (i ≠ id ∧ H.get i = some o) := by
    intro i o h
    simp only [AHeap.set] at h
    split at h
    · rename_i hcc; exact .inl ⟨hcc.1, (Option.some.inj h).symm⟩
    · rename_i hcc
      exact .inr ⟨fun e => hcc ⟨e, hidl⟩, h⟩
  have hother : ∀ i o c, i ≠ id → H.get i = some o → (g.add id gen' b).m i o.gen = some c → g.m i o.gen = some c ∧ c ≠ b := by
    intro i o c hi ho' h
    rcases hold _ _ _ h with ⟨h4, _⟩ | h4
    · exact absurd h4 hi
    · exact ⟨h4, fun e => hi (hS.inj _ _ _ _ b ho' ho (e ▸ h4) hb)⟩
  refine ⟨hE, ⟨fun c hc => ?_, fun i k c h => ?_, fun i o h => ?_, fun i i' o o' c h h' hb1 hb2 => ?_, fun i o c h hb1 => ?_, fun i o k c h hb1 => ?_, hS.var.ext hE⟩, hm⟩
  · have := hS.zlt c hc; rw [hh]; simpa using this
  · rw [hh]
    rcases hold _ _ _ h with ⟨rfl, rfl, rfl⟩ | h4
    · simpa [set_next] using ⟨hidl, hbl⟩
    · simpa [set_next] using hS.mlt _ _ _ h4
  · rcases hget i o h with ⟨rfl, rfl⟩ | ⟨hi, h4⟩
    · refine ⟨b, cur', lo, hi, hm, hnew, by rw [hsz]; exact hfr, by omega, fun j y hy => ?_⟩
      obtain ⟨u, hu, hrep⟩ := hr j y hy
      exact ⟨u, hu, hrep.ext hE⟩
    · refine (hS.live i o h4).ext hE (fun c hc => hoth c ?_)
      intro e
      exact hi (hS.inj _ _ _ _ b h4 ho (e ▸ hc) hb)
  · rcases hget i o h with ⟨rfl, rfl⟩ | ⟨hi, h4⟩ <;> rcases hget i' o' h' with ⟨rfl, rfl⟩ | ⟨hi', h5⟩
    · rfl
    · have := hother _ _ _ hi' h5 hb2
      simp only [AObj.gen] at hb1
      rw [hm] at hb1
      obtain rfl := Option.some.inj hb1
      exact absurd rfl this.2
    · have := hother _ _ _ hi h4 hb1
      simp only [AObj.gen] at hb2
      rw [hm] at hb2
      obtain rfl := Option.some.inj hb2
      exact absurd rfl this.2
    · exact hS.inj _ _ _ _ c h4 h5 (hother _ _ _ hi h4 hb1).1 (hother _ _ _ hi' h5 hb2).1
  · rcases hget i o h with ⟨rfl, rfl⟩ | ⟨hi, h4⟩
    · simp only [AObj.gen] at hb1
      rw [hm] at hb1
      obtain rfl := Option.some.inj hb1
      exact hnz
    · exact hS.nz i o c h4 (hother _ _ _ hi h4 hb1).1
  · rcases hget i o h with ⟨rfl, rfl⟩ | ⟨hi, h4⟩
    · simp only [AObj.gen]
      rcases hold _ _ _ hb1 with ⟨_, rfl, _⟩ | h5
      · exact Nat.le_refl _
      · have := hS.gen i _ k c ho h5
        simp only [AObj.gen] at this
        omega
    · rcases hold _ _ _ hb1 with ⟨h5, _⟩ | h5
      · exact absurd h5 hi
      · exact hS.gen i o k c h4 h5
/-- The row goes to a new block. -/
theorem sim_grow {id gen : Nat} {e : TypeId} {cs ys : List AV} {us pad : Array Value} {lo hi : Nat} (hS : Sim g w H) (ho : H.get id = some (.row e gen cs)) (hr : Reps g w us ys) (hh : w'.heap = w.heap.push (.cells (us ++ pad) e (lo, hi))) (hfr : ∀ i, i < (us ++ pad).size + tailN e → ¬ (lo ≤ i ∧ i < hi))
    (h1 : w'.os = w.os) (h2 : w'.tape = w.tape) (h3 : w'.output = w.output) :
    Ext g w (g.add id (gen + 1) w.heap.size) w' ∧ Sim (g.add id (gen + 1) w.heap.size) w' (H.set id (.row e (gen + 1) ys)) ∧ (g.add id (gen + 1) w.heap.size).m id (gen + 1) = some w.heap.size ∧ w'.shape? w.heap.size = some (e, (us ++ pad).size) := by
  have hidl : id < H.next := H.lt ho
  have hnone : g.m id (gen + 1) = none := by
    cases h : g.m id (gen + 1) with
    | none => rfl
    | some b =>
      have := hS.gen id _ _ _ ho h
      simp only [AObj.gen] at this
      omega
  have hE := ext_push hS hh h1 h2 h3 hnone w.heap.size (Nat.le_refl _)
  have hnew : w'.heap[w.heap.size]? = some (.cells (us ++ pad) e (lo, hi)) := by rw [hh]; simp
  have hm : (g.add id (gen + 1) w.heap.size).m id (gen + 1) = some w.heap.size := by simp [Ghost.add]
  have hold : ∀ i k c, (g.add id (gen + 1) w.heap.size).m i k = some c → (i = id ∧ k = gen + 1 ∧ c = w.heap.size) ∨ g.m i k = some c := by
    intro i k c h
    simp only [Ghost.add] at h
    split at h
    · rename_i hcc; exact .inl ⟨hcc.1, hcc.2, (Option.some.inj h).symm⟩
    · exact .inr h
  have hget : ∀ i o, (H.set id (.row e (gen + 1) ys)).get i = some o → (i = id ∧ o = .row e (gen + 1) ys) ∨ (i ≠ id ∧ H.get i = some o) := by
    intro i o h
    simp only [AHeap.set] at h
    split at h
    · rename_i hcc; exact .inl ⟨hcc.1, (Option.some.inj h).symm⟩
    · rename_i hcc
      exact .inr ⟨fun e => hcc ⟨e, hidl⟩, h⟩
  have hother : ∀ i o c, i ≠ id → (g.add id (gen + 1) w.heap.size).m i o = some c → g.m i o = some c := by
    intro i o c hi h
    rcases hold _ _ _ h with ⟨h4, _⟩ | h4
    · exact absurd h4 hi
    · exact h4
  refine ⟨hE, ⟨fun c hc => ?_, fun i k c h => ?_, fun i o h => ?_, fun i i' o o' c h h' hb1 hb2 => ?_, fun i o c h hb1 => ?_, fun i o k c h hb1 => ?_, hS.var.ext hE⟩, hm, by simp [World.shape?, hnew]⟩
  · have := hS.zlt c hc; rw [hh]; simp; omega
  · rw [hh]
    rcases hold _ _ _ h with ⟨rfl, rfl, rfl⟩ | h4
    · simp [set_next, hidl]
    · have := hS.mlt _ _ _ h4
      simp [set_next]
      omega
  · rcases hget i o h with ⟨rfl, rfl⟩ | ⟨hi, h4⟩
    · refine ⟨w.heap.size, us ++ pad, lo, hi, hm, hnew, hfr, by simp [hr.1], fun j y hy => ?_⟩
      obtain ⟨u, hu, hrep⟩ := hr.get hy
      have hi : j < us.size := (Array.getElem?_eq_some_iff.1 hu).1
      exact ⟨u, by rw [Array.getElem?_append_left hi]; exact hu, hrep.ext hE⟩
    · exact (hS.live i o h4).ext hE (fun b hb => heap_push_old _ hh (hS.mlt _ _ _ hb).2)
  · rcases hget i o h with ⟨rfl, rfl⟩ | ⟨hi, h4⟩ <;> rcases hget i' o' h' with ⟨rfl, rfl⟩ | ⟨hi', h5⟩
    · rfl
    · have := (hS.mlt _ _ _ (hother _ _ _ hi' hb2)).2
      simp only [AObj.gen] at hb1
      rw [hm] at hb1
      obtain rfl := Option.some.inj hb1
      omega
    · have := (hS.mlt _ _ _ (hother _ _ _ hi hb1)).2
      simp only [AObj.gen] at hb2
      rw [hm] at hb2
      obtain rfl := Option.some.inj hb2
      omega
    · exact hS.inj _ _ _ _ c h4 h5 (hother _ _ _ hi hb1) (hother _ _ _ hi' hb2)
  · rcases hget i o h with ⟨rfl, rfl⟩ | ⟨hi, h4⟩
    · simp only [AObj.gen] at hb1
      rw [hm] at hb1
      obtain rfl := Option.some.inj hb1
      intro hz
      have := hS.zlt _ hz
      omega
    · exact hS.nz i o c h4 (hother _ _ _ hi hb1)
  · rcases hget i o h with ⟨rfl, rfl⟩ | ⟨hi, h4⟩
    · simp only [AObj.gen]
      rcases hold _ _ _ hb1 with ⟨_, rfl, _⟩ | h5
      · exact Nat.le_refl _
      · have := hS.gen i _ k c ho h5
        simp only [AObj.gen] at this
        omega
    · rcases hold _ _ _ hb1 with ⟨h5, _⟩ | h5
      · exact absurd h5 hi
      · exact hS.gen i o k c h4 h5
/-- A new block that nobody writes to. -/
theorem sim_shut {o : Obj} (hS : Sim g w H) (hh : w'.heap = w.heap.push o) (h1 : w'.os = w.os) (h2 : w'.tape = w.tape) (h3 : w'.output = w.output) :
    Ext g w { g with Z := fun b => g.Z b ∨ b = w.heap.size } w' ∧ Sim { g with Z := fun b => g.Z b ∨ b = w.heap.size } w' H := by
  have hE : Ext g w { g with Z := fun b => g.Z b ∨ b = w.heap.size } w' :=
    ⟨fun _ _ _ h => h, fun _ h => .inl h, fun b' hb => heap_push_old o hh (hS.zlt b' hb), fun b' s h => shape_push o hh h, by rw [hh]; simp, h1, h2, h3, fun k hk q => by
      rcases q with (q | q) | q
      · exact .inl q
      · omega
      · exact .inr q, fun k hk _ => heap_push_old o hh hk⟩
  refine ⟨hE, ⟨fun b hb => ?_, fun id gen b hb => ?_, fun id o ho => ?_, fun id id' o o' b ho ho' hb hb' => hS.inj _ _ _ _ b ho ho' hb hb', fun id o b ho hb => ?_, fun id o gen b ho hb => hS.gen _ _ _ _ ho hb, hS.var.ext hE⟩⟩
  · rw [hh]
    rcases hb with hb | rfl
    · have := hS.zlt b hb; simp; omega
    · simp
  · have := hS.mlt _ _ _ hb
    rw [hh]
    simp
    omega
  · exact (hS.live id o ho).ext hE (fun b hb => heap_push_old _ hh (hS.mlt _ _ _ hb).2)
  · have := (hS.mlt _ _ _ hb).2
    intro hz
    rcases hz with hz | rfl
    · exact hS.nz id o b ho hb hz
    · omega
/-- A row that nobody writes to any more. -/
theorem sim_kill {id : Nat} {o : AObj} {b : Nat} (hS : Sim g w H) (ho : H.get id = some o) (hb : g.m id o.gen = some b) :
    Ext g w { g with Z := fun k => g.Z k ∨ k = b } w ∧ Sim { g with Z := fun k => g.Z k ∨ k = b } w (H.kill id) := by
  have hE : Ext g w { g with Z := fun k => g.Z k ∨ k = b } w :=
    ⟨fun _ _ _ h => h, fun _ h => .inl h, fun _ _ => rfl, fun _ _ h => h, Nat.le_refl _, rfl, rfl, rfl, fun k hk q => by
      rcases q with (q | q) | q
      · exact .inl q
      · subst q; exact .inr ⟨_, _, hb⟩
      · exact .inr q, fun _ _ _ => rfl⟩
  have hget : ∀ i o, (H.kill id).get i = some o → i ≠ id ∧ H.get i = some o := by
    intro i o h
    simp only [AHeap.kill] at h
    split at h
    · cases h
    · exact ⟨by assumption, h⟩
  refine ⟨hE, ⟨fun k hk => ?_, fun i k c h => hS.mlt _ _ _ h, fun i o h => (hS.live i o (hget i o h).2).ext hE (fun _ _ => rfl), fun i i' o o' c h h' => hS.inj _ _ _ _ c (hget _ _ h).2 (hget _ _ h').2, fun i o' c h hb1 => ?_, fun i o k c h => hS.gen _ _ _ _ (hget _ _ h).2, hS.var.ext hE⟩⟩
  · rcases hk with hk | rfl
    · exact hS.zlt k hk
    · exact (hS.mlt _ _ _ hb).2
  · obtain ⟨hi, h2⟩ := hget i o' h
    intro hz
    rcases hz with hz | rfl
    · exact hS.nz i o' c h2 hb1 hz
    · exact hi (hS.inj _ _ _ _ _ h2 ho hb1 hb)
theorem flat_get : ∀ (xs : List AV) (sz j i : Nat) (x y : AV), (∀ x ∈ xs, x.cells.length = sz) → xs[j]? = some x → x.cells[i]? = some y → (xs.flatMap AV.cells)[j * sz + i]? = some y
  | [], _, _, _, _, _, _, h, _ => by simp at h
  | z :: xs, sz, 0, i, x, y, hl, h1, h2 => by
    simp at h1
    subst h1
    have hi : i < z.cells.length := (List.getElem?_eq_some_iff.1 h2).1
    simp only [List.flatMap_cons, Nat.zero_mul, Nat.zero_add]
    rw [List.getElem?_append_left hi]
    exact h2
  | z :: xs, sz, j + 1, i, x, y, hl, h1, h2 => by
    have hz := hl z (by simp)
    simp only [List.flatMap_cons]
    rw [List.getElem?_append_right (by rw [hz, Nat.succ_mul]; omega), hz, show (j + 1) * sz + i - sz = j * sz + i by rw [Nat.succ_mul]; omega]
    exact flat_get xs sz j i x y (fun a ha => hl a (by simp [ha])) (by simpa using h1) h2
theorem flat_length : ∀ (xs : List AV) (sz : Nat), (∀ x ∈ xs, x.cells.length = sz) → (xs.flatMap AV.cells).length = xs.length * sz
  | [], _, _ => by simp
  | z :: xs, sz, h => by
    simp only [List.flatMap_cons, List.length_append, List.length_cons]
    rw [flat_length xs sz (fun a ha => h a (by simp [ha])), h z (by simp), Nat.succ_mul]
    omega
theorem shut_row {id gen off len sz : Nat} {e : TypeId} {cs xs : List AV} {v : Value} (hS : Sim g w H) (ho : H.get id = some (.row e gen cs)) (hr : Rep g w v (.wr id gen off len sz))
    (hx : ∀ x ∈ xs, x.cells.length = sz) (hn : xs.length = len) (hc : (cs.drop off).take (len * sz) = xs.flatMap AV.cells) :
    ∃ g', Ext g w g' w ∧ Sim g' w (H.kill id) ∧ Rep g' w v (.imm sz xs) := by
  obtain ⟨b, c, e', n, rfl, h1, h2, h3, h4, h5⟩ := hr.wr_inv
  obtain ⟨hE, hK⟩ := sim_kill hS ho h1
  refine ⟨_, hE, hK, ?_⟩
  have hrow := live_row hS ho h1
  have hfl := flat_length xs sz hx
  subst hn
  refine .imm sz xs b off _ c (fun k => (w.cell? ⟨b, off + k, none⟩).getD undef) rfl h4 h5 (.inr rfl) hx (fun k hk => ?_) (fun j x i y hj hi => ?_)
  · have hk2 : k < (xs.flatMap AV.cells).length := by rw [hfl]; exact hk
    have hk3 : (cs.drop off)[k]? = some ((xs.flatMap AV.cells)[k]) := by
      have h6 : ((cs.drop off).take (xs.length * sz))[k]? = some ((xs.flatMap AV.cells)[k]) := by rw [hc]; exact List.getElem?_eq_getElem hk2
      rw [List.getElem?_take, if_pos hk] at h6
      exact h6
    rw [List.getElem?_drop] at hk3
    obtain ⟨u, hu, _⟩ := hrow (off + k) _ hk3
    rw [Nat.zero_add] at hu
    rw [hu]
    rfl
  · have h6 := flat_get xs sz j i x y hx hj hi
    rw [← hc, List.getElem?_take] at h6
    split at h6
    · rw [List.getElem?_drop] at h6
      obtain ⟨u, hu, hrep⟩ := hrow _ _ h6
      rw [Nat.zero_add] at hu
      rw [hu]
      exact hrep.ext hE
    · cases h6
theorem sim_repad {id : Nat} {e : TypeId} {gen : Nat} {cs cs' : List AV} (hS : Sim g w H) (hg : H.get id = some (.row e gen cs)) (hr : RepObj g w id (.row e gen cs')) : Sim g w (H.set id (.row e gen cs')) := by
  have hget : ∀ i o, (H.set id (.row e gen cs')).get i = some o → ∃ o', H.get i = some o' ∧ o'.gen = o.gen ∧ (i ≠ id → o' = o) ∧ (i = id → o = .row e gen cs') := by
    intro i o h
    simp only [AHeap.set] at h
    split at h
    · rename_i hc
      obtain ⟨rfl, _⟩ := hc
      obtain rfl := Option.some.inj h
      exact ⟨_, hg, rfl, fun q => absurd rfl q, fun _ => rfl⟩
    · rename_i hc
      exact ⟨o, h, rfl, fun _ => rfl, fun q => absurd (And.intro q (H.lt hg)) hc⟩
  refine ⟨hS.zlt, hS.mlt, fun i o h => ?_, fun i i' o o' b h h' hb hb' => ?_, fun i o b h hb => ?_, fun i o k b h hb => ?_, hS.var⟩
  · obtain ⟨o', h1, h2, h3, h4⟩ := hget i o h
    by_cases q : i = id
    · rw [h4 q, q]
      exact hr
    · rw [← h3 q]
      exact hS.live i o' h1
  · obtain ⟨p, h1, h2, _, _⟩ := hget i o h
    obtain ⟨p', h1', h2', _, _⟩ := hget i' o' h'
    exact hS.inj i i' p p' b h1 h1' (by rw [h2]; exact hb) (by rw [h2']; exact hb')
  · obtain ⟨p, h1, h2, _, _⟩ := hget i o h
    exact hS.nz i p b h1 (by rw [h2]; exact hb)
  · obtain ⟨p, h1, h2, _, _⟩ := hget i o h
    rw [← h2]
    exact hS.gen i p k b h1 hb
/-- A value's rows that may be written to, shut: nobody writes to them any more. -/
inductive Shut : AHeap → AV → AHeap → AV → Prop
  | refl (H : AHeap) (y : AV) : Shut H y H y
  | row (H : AHeap) (id gen off len sz : Nat) (e : TypeId) (cs xs : List AV) : H.get id = some (.row e gen cs) → (∀ x ∈ xs, x.cells.length = sz) → xs.length = len → (cs.drop off).take (len * sz) = xs.flatMap AV.cells →
      Shut H (.wr id gen off len sz) (H.kill id) (.imm sz xs)
  | agg (H H1 : AHeap) (l r : List AV) (y z : AV) : Shut H y H1 z → Shut H (.agg (l ++ y :: r)) H1 (.agg (l ++ z :: r))
  | tup (H H1 : AHeap) (l r : List AV) (y z : AV) : Shut H y H1 z → Shut H (.tup (l ++ y :: r)) H1 (.tup (l ++ z :: r))
  | soft (H : AHeap) (id gen off len cap sz : Nat) : Shut H (.wc id gen off len cap sz) H (.wr id gen off len sz)
  | cut (H : AHeap) (y : AV) (id gen n : Nat) (e : TypeId) (cs : List AV) : H.get id = some (.row e gen cs) → Shut H y (H.set id (.row e gen (cs.take n))) y
  | trans (H H1 H2 : AHeap) (x y z : AV) : Shut H x H1 y → Shut H1 y H2 z → Shut H x H2 z
  | cell (H H1 : AHeap) (id gen : Nat) (e : TypeId) (l r : List AV) (x x' y : AV) : H.get id = some (.row e gen (l ++ x :: r)) → Shut H x H1 x' → H1.get id = some (.row e gen (l ++ x :: r)) → Shut H y (H1.set id (.row e gen (l ++ x' :: r))) y
theorem Reps.replace {g' : Ghost} {vs : Array Value} {l r : List AV} {y z : AV} (hE : Ext g w g' w') (h : Reps g w vs (l ++ y :: r)) (hz : ∀ v, vs[l.length]? = some v → Rep g' w' v z) : Reps g' w' vs (l ++ z :: r) := by
  refine ⟨by rw [h.1]; simp, fun i v x hv hx => ?_⟩
  by_cases hi : i = l.length
  · subst hi
    rw [List.getElem?_append_right (Nat.le_refl _)] at hx
    simp at hx
    subst hx
    exact hz v hv
  · refine (h.2 i v x hv ?_).ext hE
    by_cases hlt : i < l.length
    · rw [List.getElem?_append_left hlt] at hx ⊢
      exact hx
    · rw [List.getElem?_append_right (by omega)] at hx ⊢
      obtain ⟨k, hk⟩ : ∃ k, i - l.length = k + 1 := ⟨i - l.length - 1, by omega⟩
      rw [hk] at hx ⊢
      simpa using hx
theorem Shut.sound {H H' : AHeap} {y y' : AV} (h : Shut H y H' y') : ∀ {g : Ghost} {v : Value}, Sim g w H → Rep g w v y → ∃ g', Ext g w g' w ∧ Sim g' w H' ∧ Rep g' w v y' := by
  induction h with
  | refl H y => exact fun hS hr => ⟨_, Ext.refl _ _, hS, hr⟩
  | row H id gen off len sz e cs xs h1 h2 h3 h4 => exact fun hS hr => shut_row hS h1 hr h2 h3 h4
  | agg H H1 l r y z _ ih =>
    intro g v hS hr
    obtain ⟨vs, rfl, hreps⟩ := hr.agg_inv
    obtain ⟨u, hu, hrep⟩ := hreps.get (i := l.length) (y := y) (by simp)
    obtain ⟨g', hE, hS', hr'⟩ := ih hS hrep
    refine ⟨g', hE, hS', ?_⟩
    have := hreps.replace hE (fun v hv => by rw [hu] at hv; obtain rfl := Option.some.inj hv; exact hr')
    exact .agg _ _ this.1 this.2
  | tup H H1 l r y z _ ih =>
    intro g v hS hr
    obtain ⟨vs, rfl, hreps⟩ := hr.tup_inv
    obtain ⟨u, hu, hrep⟩ := hreps.get (i := l.length) (y := y) (by simp)
    obtain ⟨g', hE, hS', hr'⟩ := ih hS hrep
    refine ⟨g', hE, hS', ?_⟩
    have := hreps.replace hE (fun v hv => by rw [hu] at hv; obtain rfl := Option.some.inj hv; exact hr')
    exact .tup _ _ this.1 this.2
  | soft H id gen off len cap sz =>
    intro g v hS hr
    exact ⟨g, Ext.refl _ _, hS, hr.wc_wr⟩
  | cut H y id gen n e cs hg =>
    intro g v hS hr
    refine ⟨g, Ext.refl _ _, sim_repad hS hg ?_, hr⟩
    obtain ⟨b, cur, lo, hi, q1, q2, q3, q4, q5⟩ := hS.live id _ hg
    refine ⟨b, cur, lo, hi, q1, q2, q3, by rw [List.length_take]; omega, fun i y hy => ?_⟩
    rw [List.getElem?_take] at hy
    split at hy
    · exact q5 i y hy
    · cases hy
  | trans H H1 H2 x y z _ _ ih1 ih2 =>
    intro g v hS hr
    obtain ⟨g1, hE1, hS1, hr1⟩ := ih1 hS hr
    obtain ⟨g2, hE2, hS2, hr2⟩ := ih2 hS1 hr1
    exact ⟨g2, hE1.trans hE2, hS2, hr2⟩
  | cell H H1 id gen e l r x x' y hg _ hg1 ih =>
    intro g v hS hr
    obtain ⟨b, cur, lo, hi, q1, q2, q3, q4, q5⟩ := hS.live id _ hg
    obtain ⟨u, hu, hru⟩ := q5 l.length x (by simp)
    obtain ⟨g1, hE1, hS1, hr1⟩ := ih hS hru
    refine ⟨g1, hE1, sim_repad hS1 hg1 ⟨b, cur, lo, hi, hE1.m _ _ _ q1, q2, q3, by simpa using q4, fun i z hz => ?_⟩, hr.ext hE1⟩
    by_cases hil : i = l.length
    · subst hil
      rw [List.getElem?_append_right (Nat.le_refl _)] at hz
      simp at hz
      subst hz
      exact ⟨u, hu, hr1⟩
    · have hz2 : (l ++ x :: r)[i]? = some z := by
        by_cases hlt : i < l.length
        · rw [List.getElem?_append_left hlt] at hz ⊢
          exact hz
        · rw [List.getElem?_append_right (by omega)] at hz ⊢
          obtain ⟨k, hk⟩ : ∃ k, i - l.length = k + 1 := ⟨i - l.length - 1, by omega⟩
          rw [hk] at hz ⊢
          simpa using hz
      obtain ⟨u2, hu2, hr2⟩ := q5 i z hz2
      exact ⟨u2, hu2, hr2.ext hE1⟩
/-- Cells stored one behind the other. -/
theorem run_stores : ∀ (vs : List Value) (i b o : Nat) (w : World) (cur : Array Value) (e : TypeId) (lo hi : Nat), w.heap[b]? = some (.cells cur e (lo, hi)) → o + i + vs.length ≤ cur.size → (∀ i, i < cur.size → ¬ (lo ≤ i ∧ i < hi)) → (∀ u ∈ vs, u.oneCell' = true) →
    ∃ w' cur', (storeCells ⟨b, o, none⟩ vs i).run P w = .ok () w' ∧ w'.heap = w.heap.setIfInBounds b (.cells cur' e (lo, hi)) ∧ w'.os = w.os ∧ w'.tape = w.tape ∧ w'.output = w.output ∧ cur'.size = cur.size ∧
      ∀ k, cur'[k]? = if o + i ≤ k ∧ k < o + i + vs.length then vs[k - (o + i)]? else cur[k]?
  | [], i, b, o, w, cur, e, lo, hi, h, _, _, _ => by
    refine ⟨w, cur, rfl, ?_, rfl, rfl, rfl, rfl, fun k => by rw [if_neg (by simp only [List.length_nil]; omega)]⟩
    have hb := (Array.getElem?_eq_some_iff.1 h)
    obtain ⟨hb1, hb2⟩ := hb
    apply Array.ext
    · simp
    · intro j h1 h2
      rw [Array.getElem_setIfInBounds]
      split
      · rename_i hj; subst hj; exact hb2
      · rfl
  | v :: vs, i, b, o, w, cur, e, lo, hi, h, hl, hfr, h1 => by
    simp only [List.length_cons] at hl
    have hblt : b < w.heap.size := (Array.getElem?_eq_some_iff.1 h).1
    have hc : w.cell? ⟨b, o + i, none⟩ = some (cur[o + i]'(by omega)) := by
      simp [World.cell?, h]
    have hf : w.frozen? ⟨b, o + i, none⟩ = false := by
      have := hfr (o + i) (by omega)
      simp only [World.frozen?, h]
      simpa using this
    have hst : (store ⟨b, o + i, none⟩ v).run P w = .ok () (w.setCell ⟨b, o + i, none⟩ v) := by
      rw [run_store P w _ v _ (h1 v (by simp)), hc]
      simp [hf]
    have hh : (w.setCell ⟨b, o + i, none⟩ v).heap = w.heap.setIfInBounds b (.cells (cur.setIfInBounds (o + i) v) e (lo, hi)) := by
      have hv : w.heap[b] = .cells cur e (lo, hi) := (Array.getElem?_eq_some_iff.1 h).2
      apply Array.ext
      · simp [World.setCell]
      · intro j h1 h2
        simp only [World.setCell]
        rw [Array.getElem_modify, Array.getElem_setIfInBounds]
        split
        · rename_i hj; subst hj; rw [hv]; simp
        · rfl
    have hnew : (w.setCell ⟨b, o + i, none⟩ v).heap[b]? = some (.cells (cur.setIfInBounds (o + i) v) e (lo, hi)) := by
      rw [hh, Array.getElem?_setIfInBounds_self_of_lt hblt]
    obtain ⟨w', cur', r1, r2, r3, r4, r5, r6, r7⟩ := run_stores vs (i + 1) b o _ _ e lo hi hnew (by simp; omega) (by simpa using hfr) (fun u hu => h1 u (by simp [hu]))
    refine ⟨w', cur', ?_, ?_, r3, r4, r5, by rw [r6]; simp, fun k => ?_⟩
    · simp only [storeCells, Sem.run_bind, Addr.add_lit, hst, Result.andThen_ok]
      exact r1
    · rw [r2, hh, Array.setIfInBounds_setIfInBounds]
    · rw [r7 k]
      simp only [List.length_cons]
      by_cases hk : o + i = k
      · subst hk
        rw [if_neg (by omega), if_pos ⟨Nat.le_refl _, by omega⟩, Array.getElem?_setIfInBounds_self_of_lt (by omega), Nat.sub_self]
        rfl
      · by_cases hk2 : o + (i + 1) ≤ k ∧ k < o + (i + 1) + vs.length
        · rw [if_pos hk2, if_pos (by omega), show k - (o + i) = (k - (o + (i + 1))) + 1 by omega]
          rfl
        · rw [if_neg hk2, if_neg (by omega), Array.getElem?_setIfInBounds_ne hk]
end
end Go.Proofs.YtmdgjfadbhenjaaGreatDoor.AL
/- Operations that make memory, write to it, or call: what they do to the plain picture, and that the machine's do so. -/
set_option linter.unusedVariables false
set_option linter.unusedSimpArgs false
namespace Go.Proofs.YtmdgjfadbhenjaaGreatDoor.AL
open Go
inductive SOp where
  | alloc (e : TypeId) (zero : List AV)
  | box (e : TypeId) (x : AX)
  | store (n : Nat) (x v : AX)
  | lit (e : TypeId) (sz : Nat) (parts : List AX)
  | litw (e : TypeId) (sz : Nat) (parts : List AX)
  | litc (e : TypeId) (sz : Nat) (parts : List AX)
  | app (e : TypeId) (sz bytes : Nat) (s x : AX)
  | copy (sz : Nat) (d s : AX)
  | mk (e : TypeId) (sz bytes : Nat) (zero : List AV) (n : AX)
  | s2b (e : TypeId) (x : AX)
  | call (f : Nat) (args : List AX)
  | callv (x : AX) (args : List AX)
  | stop
  | put (e : TypeId) (n : Nat) (x : AX)
  | lookup (str : Bool) (zero : AV) (ok : Bool) (m k : AX)
  | mkmap
  | mapup (str : Bool) (m k v : AX)
  | mlen (m : AX)
  | bests (mx : Bool) (x : AX) (xs : List AX)
  | slice3 (sz : Nat) (x hi mx : AX)
  | slice3l (sz : Nat) (x lo hi mx : AX)
  | appz (e : TypeId) (sz bytes : Nat) (zero : List AV) (s n : AX)
  | clear (sz : Nat) (zero : List AV) (x : AX)
  | range (x : AX)
  | next (x : AX)
def astore (H : AHeap) (n : Nat) (v : AV) : AV → Option AHeap
  | .ptr id gen off => match H.get id with
    | some (.row e g cs) => if g = gen ∧ v.flat = true ∧ v.cells.all AV.one = true ∧ v.cells.length = n ∧ off + n ≤ cs.length then some (H.set id (.row e g (cs.take off ++ v.cells ++ cs.drop (off + n)))) else none
    | _ => none
  | _ => none
/-- How many elements a slice (or a string, in bytes) has, and their cells. -/
def acells (H : AHeap) (sz : Nat) : AV → Option (Nat × List AV)
  | .nils | .emp => some (0, [])
  | .imm s xs => if s = sz then some (xs.length, xs.flatMap AV.cells) else none
  | .wr id gen off n s => if s = sz then (match H.get id with
    | some (.row _ g cs) => if g = gen ∧ off + n * s ≤ cs.length then some (n, (cs.drop off).take (n * s)) else none
    | _ => none) else none
  | .str s => if sz = 1 then some (s.size, s.data.toList.map fun b => .int .u8 (b.toNat : Int)) else none
  | .wc id gen off n _ s => if s = sz then (match H.get id with
    | some (.row _ g cs) => if g = gen ∧ off + n * s ≤ cs.length then some (n, (cs.drop off).take (n * s)) else none
    | _ => none) else none
  | _ => none
def aapp (e : TypeId) (sz bytes : Nat) (H : AHeap) (s x : AV) : Option (AV × AHeap) :=
  match acells H sz x with
  | some (n, ys) => if ys.all AV.one = true then (match s with
    | .nils => if n = 0 then some (.nils, H) else if n * bytes ≤ 140737488355328 then some (.wr H.next 0 0 n sz, H.push (.row e 0 ys)) else none
    | .wr id gen 0 len s => match H.get id with
      | some (.row e' g cs) => if s = sz ∧ e' = e ∧ g = gen ∧ cs.length = len * sz ∧ (len + n) * bytes ≤ 140737488355328 then some (.wr id (gen + 1) 0 (len + n) sz, H.set id (.row e (gen + 1) (cs ++ ys))) else none
      | _ => none
    | .wc id gen off len c s => match H.get id with
      | some (.row e' g cs) => if s = sz ∧ e' = e ∧ g = gen ∧ off + c * sz ≤ cs.length ∧ (len + n) * bytes ≤ 140737488355328 then
          (if len + n ≤ c then some (.wc id gen off (len + n) c sz, H.set id (.row e gen (cs.take (off + len * sz) ++ ys ++ cs.drop (off + len * sz + ys.length))))
           else if ((cs.drop off).take (len * sz)).all AV.one = true then some (.wr H.next 0 0 (len + n) sz, H.push (.row e 0 ((cs.drop off).take (len * sz) ++ ys))) else none) else none
      | _ => none
    | _ => none) else none
  | none => none
/-- append(s, make([]T, n)...), where there is no room. -/
def aappz (e : TypeId) (sz bytes : Nat) (z : List AV) (H : AHeap) (s n : AV) : Option (AV × AHeap) :=
  match s, n with
  | .wc id gen off len c s, .int .i64 m => match H.get id with
    | some (.row e' g cs) => if s = sz ∧ e' = e ∧ g = gen ∧ off + c * sz ≤ cs.length ∧ 0 ≤ m ∧ c < len + m.toNat ∧ (len + m.toNat) * bytes ≤ 140737488355328 ∧ ((cs.drop off).take (len * sz)).all AV.one = true then
        some (.wr H.next 0 0 (len + m.toNat) sz, H.push (.row e 0 ((cs.drop off).take (len * sz) ++ (List.replicate m.toNat z).flatten))) else none
    | _ => none
  | _, _ => none
def aclearC (sz : Nat) (z : List AV) (H : AHeap) (id gen off n s : Nat) : Option AHeap := match H.get id with
  | some (.row e g cs) => if s = sz ∧ g = gen ∧ off + n * sz ≤ cs.length then some (H.set id (.row e g (cs.take off ++ (List.replicate n z).flatten ++ cs.drop (off + n * sz)))) else none
  | _ => none
def aclear (sz : Nat) (z : List AV) (H : AHeap) : AV → Option AHeap
  | .nils | .emp => some H
  | .wr id gen off n s => aclearC sz z H id gen off n s
  | .wc id gen off n _ s => aclearC sz z H id gen off n s
  | _ => none
def acopy (sz : Nat) (H : AHeap) (d x : AV) : Option (AV × AHeap) :=
  match acells H sz x with
  | some (n, ys) => match d with
    | .wc id gen off len _ s => match H.get id with
      | some (.row e g cs) => if s = sz ∧ g = gen ∧ off + len * sz ≤ cs.length ∧ (ys.take (min n len * sz)).all AV.one = true then some (.int .i64 (min n len : Nat), H.set id (.row e g (cs.take off ++ ys.take (min n len * sz) ++ cs.drop (off + min n len * sz)))) else none
      | _ => none
    | d => if ys.all AV.one = true then (match d with
    | .nils | .emp => some (.int .i64 0, H)
    | .wr id gen off len s => match H.get id with
      | some (.row e g cs) => if s = sz ∧ g = gen ∧ off + len * sz ≤ cs.length then some (.int .i64 (min n len : Nat), H.set id (.row e g (cs.take off ++ ys.take (min n len * sz) ++ cs.drop (off + min n len * sz)))) else none
      | _ => none
    | _ => none) else none
  | none => none
/-! maps -/
def akey (str : Bool) : AV → AV → Option Bool
  | .str a, .str b => if str then some (decide (a.data.toList = b.data.toList)) else none
  | .int k a, .int k' b => if !str ∧ k = k' then some (decide (a = b)) else none
  | _, _ => none
def amget (str : Bool) (k : AV) : List (AV × AV) → Option (Option AV)
  | [] => some none
  | e :: es => match akey str k e.1 with
    | some true => some (some e.2)
    | some false => amget str k es
    | none => none
def amset (str : Bool) (k v : AV) : List (AV × AV) → Option (List (AV × AV))
  | [] => some [(k, v)]
  | e :: es => match akey str k e.1 with
    | some true => some ((k, v) :: es)
    | some false => (amset str k v es).map (e :: ·)
    | none => none
def afound (ok b : Bool) (v : AV) : AV := if ok then .tup [v, .bool b] else v
def alookup (H : AHeap) (str : Bool) (zero : AV) (ok : Bool) (k : AV) : AV → Option AV
  | .nilm => some (afound ok false zero)
  | .map id => match H.get id with
    | some (.map es) => match amget str k es with
      | some (some v) => some (afound ok true v)
      | some none => some (afound ok false zero)
      | none => none
    | _ => none
  | _ => none
def amapup (H : AHeap) (str : Bool) (k v : AV) : AV → Option AHeap
  | .map id => match H.get id with
    | some (.map es) => (amset str k v es).map fun es => H.set id (.map es)
    | _ => none
  | _ => none
def amlen (H : AHeap) : AV → Option AV
  | .nilm => some (.int .i64 0)
  | .map id => match H.get id with
    | some (.map es) => some (.int .i64 es.length)
    | _ => none
  | _ => none
def abests (mx : Bool) (x : AV) : List AV → Option AV
  | [] => some x
  | y :: ys => (abest mx x y).bind fun z => abests mx z ys
/-- x[:n:n], of a slice of n elements. -/
def aslice3 (sz : Nat) (x hi mx : AV) : Option AV :=
  match x, hi, mx with
  | .wr id gen o n s, .int _ h, .int _ m => if s = sz ∧ h = n ∧ m = n then some (.wr id gen o n s) else none
  | .wc id gen o n c s, .int _ h, .int _ m => if s = sz ∧ h = n ∧ m = n then some (.wc id gen o n n s) else none
  | _, _, _ => none
/-- A text's next sign, for who goes through it. -/
def anext (H : AHeap) : AV → Option (AV × AHeap)
  | .ptr id 0 0 => match H.get id with
    | some (.iter s pos) => if pos < s.size then some (.tup [.bool true, .int .i64 pos, .int .i32 ((Utf8.decode s pos).1 : Int)], H.set id (.iter s (pos + (Utf8.decode s pos).2))) else some (.tup [.bool false], H)
    | _ => none
  | _ => none
def arange (H : AHeap) : AV → Option (AV × AHeap)
  | .str s => some (.ptr H.next 0 0, H.push (.iter s 0))
  | _ => none
def aslice3l (sz : Nat) (x lo hi mx : AV) : Option AV :=
  match x, lo, hi, mx with
  | .wr _ _ _ n s, .int _ l, .int _ h, .int _ m => if s = sz ∧ 0 ≤ l ∧ l ≤ h ∧ h ≤ m ∧ m ≤ n then some .top else none
  | .wc _ _ _ _ c s, .int _ l, .int _ h, .int _ m => if s = sz ∧ 0 ≤ l ∧ l ≤ h ∧ h ≤ m ∧ m ≤ c then some .top else none
  | _, _, _, _ => none
def as_ (C : Nat → List AV → AHeap → (AV → AHeap → Prop) → Prop) (H : AHeap) (ρ : AX → AV) : SOp → (AV → AHeap → Prop) → Prop
  | .alloc e z, K => K (.ptr H.next 0 0) (H.push (.row e 0 z))
  | .box e x, K => (ρ x).flat = true ∧ K (.ptr H.next 0 0) (H.push (.row e 0 (ρ x).cells))
  | .store n x v, K => ∃ H', astore H n (ρ v) (ρ x) = some H' ∧ K .top H'
  | .lit _ sz ps, K => (∀ p ∈ ps, (ρ p).flat = true ∧ (ρ p).cells.length = sz) ∧ K (.imm sz (ps.map ρ)) H
  | .litw e sz ps, K => (∀ p ∈ ps, (ρ p).flat = true ∧ (ρ p).cells.length = sz) ∧ K (.wr H.next 0 0 ps.length sz) (H.push (.row e 0 ((ps.map ρ).flatMap AV.cells)))
  | .litc e sz ps, K => (∀ p ∈ ps, (ρ p).flat = true ∧ (ρ p).cells.length = sz) ∧ K (.wc H.next 0 0 ps.length ps.length sz) (H.push (.row e 0 ((ps.map ρ).flatMap AV.cells)))
  | .app e sz b s x, K => ∃ y H', aapp e sz b H (ρ s) (ρ x) = some (y, H') ∧ K y H'
  | .copy sz d x, K => ∃ y H', acopy sz H (ρ d) (ρ x) = some (y, H') ∧ K y H'
  | .mk e sz b z n, K => ∃ m : Nat, ρ n = .int .i64 m ∧ m * b ≤ 281474976710656 ∧ K (.wr H.next 0 0 m sz) (H.push (.row e 0 (List.replicate m z).flatten))
  | .s2b e x, K => ∃ s, ρ x = .str s ∧ s.size ≤ 9223372036854775807 ∧ K (.wr H.next 0 0 s.size 1) (H.push (.row e 0 (s.data.toList.map fun b => .int .u8 (b.toNat : Int))))
  | .call f args, K => C f (args.map ρ) H K
  | .callv x args, K => match ρ x with
    | .func (.func f) fs cs => C f (fs ++ args.map ρ ++ cs) H K
    | _ => False
  | .stop, _ => False
  | .put e n x, K => ((ρ x).flat = true ∧ (ρ x).cells.all AV.one = true ∧ (ρ x).cells.length = n) ∧ K (.ptr H.next 0 0) (H.push (.row e 0 (ρ x).cells))
  | .lookup str z ok m k, K => ∃ y, alookup H str z ok (ρ k) (ρ m) = some y ∧ K y H
  | .mkmap, K => K (.map H.next) (H.push (.map []))
  | .mapup str m k v, K => ∃ H', amapup H str (ρ k) (ρ v) (ρ m) = some H' ∧ K .top H'
  | .mlen m, K => ∃ y, amlen H (ρ m) = some y ∧ K y H
  | .bests mx x xs, K => ∃ y, abests mx (ρ x) (xs.map ρ) = some y ∧ K y H
  | .slice3 sz x hi mx, K => ∃ y, aslice3 sz (ρ x) (ρ hi) (ρ mx) = some y ∧ K y H
  | .slice3l sz x lo hi mx, K => ∃ y, aslice3l sz (ρ x) (ρ lo) (ρ hi) (ρ mx) = some y ∧ K y H
  | .appz e sz b z s n, K => ∃ y H', aappz e sz b z H (ρ s) (ρ n) = some (y, H') ∧ K y H'
  | .range x, K => ∃ y H', arange H (ρ x) = some (y, H') ∧ K y H'
  | .next x, K => ∃ y H', anext H (ρ x) = some (y, H') ∧ K y H'
  | .clear sz z x, K => ∃ H', aclear sz z H (ρ x) = some H' ∧ K .top H'
def tZero (P : Program) (t : TypeId) : Option (List AV) := match P.info? t with
  | some i => match i.zero with
    | some z => z.cells.toList.mapM trV
    | none => none
  | none => none
def litOk : Nat → List (Nat × Operand) → Bool
  | _, [] => true
  | k, (i, _) :: l => i == k && litOk (k + 1) l
def tBytes (P : Program) (t : TypeId) : Option Nat := (P.info? t).map (·.bytes)
def zOk (P : Program) (e : TypeId) (sz : Nat) : Bool := match P.info? e with
  | some i => match i.zero with
    | some z => z.cells.size == sz
    | none => false
  | none => false
def sameOp : Operand → Operand → Bool
  | .tmp a, .tmp b => a == b
  | .const (.int .i64 a), .const (.int .i64 b) => a == b
  | _, _ => false
def noInt (P : Program) (t : TypeId) : Bool := match P.underlying t with
  | some .string | some (.slice _) => true
  | _ => false
def isI64 (P : Program) (t : TypeId) : Bool := match P.underlying t with
  | some (.int .i64) => true
  | _ => false
theorem isI64_spec {P : Program} {t : TypeId} (h : isI64 P t = true) : P.underlying t = some (.int .i64) := by
  unfold isI64 at h
  split at h
  · assumption
  · cases h
def tKey (P : Program) (t : TypeId) : Option Bool := match P.underlying t with
  | some .string => some true
  | some (.int _) => some false
  | _ => none
def tZeroV (P : Program) (t : TypeId) : Option AV := match P.info? t with
  | some i => match i.zero with
    | some (.agg cs) => (cs.toList.mapM trV).map .agg
    | some z => trV z
    | none => none
  | none => none
def tMap (P : Program) (t : TypeId) : Option (Bool × TypeId) := match P.underlying t with
  | some (.map k e) => (tKey P k).map fun s => (s, e)
  | _ => none
def trS (P : Program) : Op → Option SOp
  | .alloc e => (tZero P e).map (.alloc e)
  | .box e x => (trX x).map (.box e)
  | .store t x v => match tSize P t, trX x, trX v with
    | some n, some x, some v => some (.store n x v)
    | _, _, _ => none
  | .buildSlice t n parts => match tElem P t, trXs (parts.toList.map (·.2)) with
    | some (e, sz), some ps => if parts.size = n ∧ litOk 0 parts.toList = true ∧ n * sz ≤ 16777216 ∧ 0 < sz ∧ zOk P e sz = true then some (.lit e sz ps) else none
    | _, _ => none
  | .makeSlice t n c => match tElem P t, trX n, trX c with
    | some (e, sz), some n', some _ => match tBytes P e, tZero P e with
      | some b, some z => if sameOp n c = true ∧ z.length = sz ∧ 0 < sz ∧ 0 < b then some (.mk e sz b z n') else none
      | _, _ => none
    | _, _, _ => none
  | .convert src dst x => match P.underlying src, P.underlying dst with
    | some .string, some (.slice e) => if isU8 P e = true ∧ bytesT.contains e = true then (trX x).map (.s2b e) else none
    | _, _ => none
  | .call { callee := .builtin .append, args := args, argTypes := ts } => match args.toList, ts.toList with
    | [s, x], [t, u] => match tElem P t, tr2 s x (.bin .add) with
      | some (e, sz), some (.bin _ s' x') => match tBytes P e, tZero P e with
        | some b, some z => if z.length = sz ∧ 0 < sz ∧ 0 < b then (if noInt P u = true then some (.app e sz b s' x') else if isI64 P u = true then some (.appz e sz b z s' x') else none) else none
        | _, _ => none
      | _, _ => none
    | _, _ => none
  | .call { callee := .builtin .copy, args := args, argTypes := ts } => match args.toList, ts.toList with
    | [s, x], [t, _] => match tElem P t, tr2 s x (.bin .add) with
      | some (_, sz), some (.bin _ s' x') => some (.copy sz s' x')
      | _, _ => none
    | _, _ => none
  | .call { callee := .builtin .clear, args := args, argTypes := ts } => match args.toList, ts.toList with
    | [x], [t] => match tElem P t, trX x with
      | some (e, sz), some x' => match tZero P e with
        | some z => if z.length = sz ∧ z.all AV.one = true then some (.clear sz z x') else none
        | none => none
      | _, _ => none
    | _, _ => none
  | .call { callee := .value f, args := args, argTypes := _ } => match trXs args.toList with
    | some as => (match f with
      | .func f => some (.call f as)
      | f => (trX f).map fun x => .callv x as)
    | none => none
  | .lookup t m k ok => match tMap P t with
    | some (str, e) => match tZeroV P e, tr2 m k (.bin .add) with
      | some z, some (.bin _ m' k') => some (.lookup str z ok m' k')
      | _, _ => none
    | none => none
  | .makeMap _ none => some .mkmap
  | .range t x => match P.underlying t with
    | some .string => (trX x).map .range
    | _ => none
  | .next x true => (trX x).map .next
  | .slice t x none (some hi) (some mx) => match tElem P t, trXs [x, hi, mx] with
    | some (_, sz), some [x', hi', mx'] => some (.slice3 sz x' hi' mx')
    | _, _ => none
  | .slice t x (some lo) (some hi) (some mx) => match tElem P t, trXs [x, lo, hi, mx] with
    | some (_, sz), some [x', lo', hi', mx'] => some (.slice3l sz x' lo' hi' mx')
    | _, _ => none
  | .mapUpdate t m k v => match tMap P t, trXs [m, k, v] with
    | some (str, _), some [m', k', v'] => some (.mapup str m' k' v')
    | _, _ => none
  | _ => none
section
variable {P : Program} {g : Ghost} {w : World} {H : AHeap}
theorem one_one {v : Value} {y : AV} (h : Rep g w v y) (h1 : y.one = true) : v.oneCell' = true := by
  cases h <;> simp_all [AV.one, Value.oneCell']
theorem zero_spec {e : TypeId} {zs : List AV} (h : tZero P e = some zs) : ∃ i z, P.info? e = some i ∧ i.zero = some z ∧ z.cells.toList.mapM trV = some zs := by
  unfold tZero at h
  split at h <;> (try (cases h; done))
  split at h <;> (try (cases h; done))
  exact ⟨_, _, by assumption, by assumption, h⟩
theorem flat_inv : ∀ (xs : List AV) (sz k : Nat) (y : AV), (∀ x ∈ xs, x.cells.length = sz) → (xs.flatMap AV.cells)[k]? = some y → ∃ j i x, k = j * sz + i ∧ xs[j]? = some x ∧ x.cells[i]? = some y
  | [], _, _, _, _, h => by simp at h
  | z :: xs, sz, k, y, hl, h => by
    have hz := hl z (by simp)
    simp only [List.flatMap_cons] at h
    by_cases hk : k < sz
    · rw [List.getElem?_append_left (by omega)] at h
      exact ⟨0, k, z, by simp, rfl, h⟩
    · rw [List.getElem?_append_right (by omega), hz] at h
      obtain ⟨j, i, x, h1, h2, h3⟩ := flat_inv xs sz (k - sz) y (fun a ha => hl a (by simp [ha])) h
      exact ⟨j + 1, i, x, by rw [Nat.succ_mul]; omega, by simpa using h2, h3⟩
theorem run_first {sz n : Nat} {ys : List AV} {v : Value} {x : AV} (hS : Sim g w H) (hx : Rep g w v x) (h : acells H sz x = some (n, ys)) :
    (Builtin.lenOf v).run P w = .ok n w ∧ ys.length = n * sz ∧ ∀ m, m ≤ n → ∃ us : List Value, Reps g w us.toArray (ys.take (m * sz)) ∧ ∀ w1 : World, w1.heap = w.heap → (Builtin.firstCells sz m v).run P w1 = .ok us.toArray w1 := by
  have cellsAt : ∀ (b o c : Nat), ys.length = n * sz → CellsAt g w b o ys → ∀ m, m ≤ n → ∃ us : List Value, Reps g w us.toArray (ys.take (m * sz)) ∧ ∀ w1 : World, w1.heap = w.heap → (Builtin.firstCells sz m (.slice (some ⟨b, o, none⟩) n c)).run P w1 = .ok us.toArray w1 := by
    intro b o c hl hc m hm
    have hm2 : m * sz ≤ n * sz := Nat.mul_le_mul_right _ hm
    refine ⟨(List.range (m * sz)).map fun k => (w.cell? ⟨b, o + k, none⟩).getD undef, ⟨by simp; omega, fun i u y hu hy => ?_⟩, fun w1 hw1 => ?_⟩
    · have hi : i < m * sz := by
        have := (List.getElem?_eq_some_iff.1 hy).1
        simp at this
        omega
      rw [List.getElem?_take, if_pos hi] at hy
      obtain ⟨u', hu', hrep⟩ := hc i y hy
      simp [hi] at hu
      rw [hu'] at hu
      simp at hu
      subst hu
      exact hrep
    · simp only [Builtin.firstCells]
      refine run_loadCells w1 _ _ _ (fun j hj => ?_)
      obtain ⟨u', hu', _⟩ := hc j (ys[j]'(by omega)) (List.getElem?_eq_getElem _)
      rw [Addr.add_lit]
      have : w1.cell? ⟨b, o + j, none⟩ = w.cell? ⟨b, o + j, none⟩ := by simp [World.cell?, hw1]
      rw [this, hu']
      rfl
  unfold acells at h
  split at h <;> (try (cases h; done))
  · simp only [Option.some.injEq, Prod.mk.injEq] at h
    obtain ⟨rfl, rfl⟩ := h
    cases hx
    refine ⟨by simp [Builtin.lenOf], by simp, fun m hm => ⟨[], ⟨by simp, fun i u y h => by simp at h⟩, fun w1 _ => by simp [Builtin.firstCells]⟩⟩
  · simp only [Option.some.injEq, Prod.mk.injEq] at h
    obtain ⟨rfl, rfl⟩ := h
    cases hx
    refine ⟨by simp [Builtin.lenOf], by simp, fun m hm => ⟨[], ⟨by simp, fun i u y h => by simp at h⟩, fun w1 _ => ?_⟩⟩
    obtain rfl : m = 0 := by omega
    simp [Builtin.firstCells, loadCells, loadCellsFrom]
  · split at h <;> (try (cases h; done))
    rename_i hs
    subst hs
    simp only [Option.some.injEq, Prod.mk.injEq] at h
    obtain ⟨rfl, rfl⟩ := h
    obtain ⟨b, o, c, f, rfl, h2, h3, h4, h5, h6, h7⟩ := hx.imm_inv
    have hl := flat_length _ _ h5
    refine ⟨by simp [Builtin.lenOf], hl, cellsAt b o c hl ?_⟩
    intro k y hy
    have hk : k < (List.flatMap AV.cells _).length := (List.getElem?_eq_some_iff.1 hy).1
    rw [hl] at hk
    obtain ⟨j, i, z, rfl, hj, hi⟩ := flat_inv _ _ _ _ h5 hy
    exact ⟨_, h6 _ hk, h7 _ _ _ _ hj hi⟩
  · split at h <;> (try (cases h; done))
    rename_i id gen off k s hs
    subst hs
    split at h <;> (try (cases h; done))
    rename_i e2 g2 cs hg
    split at h <;> (try (cases h; done))
    rename_i hc
    obtain ⟨rfl, hc⟩ := hc
    simp only [Option.some.injEq, Prod.mk.injEq] at h
    obtain ⟨rfl, rfl⟩ := h
    obtain ⟨b, c, e', n', rfl, h1, h2, h3, h4, h5⟩ := hx.wr_inv
    have hl : ((cs.drop off).take (k * s)).length = k * s := by simp; omega
    refine ⟨by simp [Builtin.lenOf], hl, cellsAt b off c hl ?_⟩
    intro i y hy
    rw [List.getElem?_take] at hy
    split at hy
    · rw [List.getElem?_drop] at hy
      obtain ⟨u, hu, hrep⟩ := live_row hS hg h1 _ _ hy
      rw [Nat.zero_add] at hu
      exact ⟨u, hu, hrep⟩
    · cases hy
  · rename_i s
    split at h <;> (try (cases h; done))
    rename_i hs
    subst hs
    simp only [Option.some.injEq, Prod.mk.injEq] at h
    obtain ⟨rfl, rfl⟩ := h
    cases hx
    refine ⟨by simp [Builtin.lenOf], by simp, fun m hm => ⟨(s.data.toList.take m).map fun b => .int .u8 (b.toNat : Int), ⟨by simp, fun i u y hu hy => ?_⟩, fun w1 _ => ?_⟩⟩
    · rw [Nat.mul_one, ← List.map_take, List.getElem?_map] at hy
      rw [List.getElem?_toArray, List.getElem?_map] at hu
      obtain ⟨b1, hb1, rfl⟩ := Option.map_eq_some_iff.1 hu
      obtain ⟨b2, hb2, rfl⟩ := Option.map_eq_some_iff.1 hy
      rw [hb1] at hb2
      obtain rfl := Option.some.inj hb2
      exact .int _ _
    · simp only [Builtin.firstCells, Sem.run_pure]
      congr 1
      apply Array.ext'
      simp
  · split at h <;> (try (cases h; done))
    rename_i id gen off k cc s hs
    subst hs
    split at h <;> (try (cases h; done))
    rename_i e2 g2 cs hg
    split at h <;> (try (cases h; done))
    rename_i hc
    obtain ⟨rfl, hc⟩ := hc
    simp only [Option.some.injEq, Prod.mk.injEq] at h
    obtain ⟨rfl, rfl⟩ := h
    obtain ⟨b, c, e', n', rfl, h1, h2, h3, h4, h5⟩ := hx.wc_wr.wr_inv
    have hl : ((cs.drop off).take (k * s)).length = k * s := by simp; omega
    refine ⟨by simp [Builtin.lenOf], hl, cellsAt b off c hl ?_⟩
    intro i y hy
    rw [List.getElem?_take] at hy
    split at hy
    · rw [List.getElem?_drop] at hy
      obtain ⟨u, hu, hrep⟩ := live_row hS hg h1 _ _ hy
      rw [Nat.zero_add] at hu
      exact ⟨u, hu, hrep⟩
    · cases hy
end
/-- Called with such values, in such a memory, function f answers so. -/
def ACalls (P : Program) (f : Nat) (args : List AV) (H : AHeap) (K : AV → AHeap → Prop) : Prop :=
  ∀ (g : Ghost) (w : World) (vs : Array Value), Sim g w H → Reps g w vs args → ∀ (o : Oper) (act : Act) (next : Act → World → Prop) (Qc : Exit → Act → World → Prop),
    (∀ y H' g' w' v, K y H' → Ext g w g' w' → Sim g' w' H' → Rep g' w' v y → next (act.put o.dst v) w') → o.upon P act next Qc ((callFunc f vs).run P w)
end Go.Proofs.YtmdgjfadbhenjaaGreatDoor.AL
/- Operations that make memory or write to it do to the machine's memory what is told of them. -/
set_option linter.unusedVariables false
set_option linter.unusedSimpArgs false
namespace Go.Proofs.YtmdgjfadbhenjaaGreatDoor.AL
open Go
section
variable {P : Program} {g : Ghost} {w : World} {H : AHeap} {act : Act} {a : List AV}
/-- What an operation's run must bring. -/
def Goes (P : Program) (g : Ghost) (w : World) (s : Sem Value) (K : AV → AHeap → Prop) : Prop :=
  ∃ v w' g' y H', s.run P w = .ok v w' ∧ Ext g w g' w' ∧ Sim g' w' H' ∧ Rep g' w' v y ∧ K y H'
theorem empty_pad (us : Array Value) : us ++ (#[] : Array Value) = us := by simp
theorem goes_alloc {e : TypeId} {zs : List AV} {K : AV → AHeap → Prop} (hS : Sim g w H) (hz : tZero P e = some zs) (hk : K (.ptr H.next 0 0) (H.push (.row e 0 zs))) : Goes P g w (Instr.alloc e true (.tuple #[])) K := by
  obtain ⟨i, z, hi, hz1, hz2⟩ := zero_spec hz
  have hr : Reps g w z.cells zs := by simpa using trV_reps (g := g) (w := w) _ _ hz2
  obtain ⟨hE, hS', hm, _⟩ := sim_push (e := e) (w' := w.alloc (.cells z.cells e)) (pad := #[]) (lo := 0) (hi := 0) hS hr (by simp [World.alloc, -World.alloc_eq]) (fun _ _ => by omega) rfl rfl rfl
  exact ⟨.pointer (some ⟨w.heap.size, 0, none⟩), _, _, _, _, by simp [Instr.alloc, zeroValue, typeInfo, hi, hz1, newVar, newRow], hE, hS', .ptr _ _ _ _ hm, hk⟩
theorem goes_box {e : TypeId} {v : Value} {x : AV} {K : AV → AHeap → Prop} (hS : Sim g w H) (hx : Rep g w v x) (hf : x.flat = true) (hk : K (.ptr H.next 0 0) (H.push (.row e 0 x.cells))) : Goes P g w (Instr.box e v) K := by
  have hr := hx.cells (by intro h; subst h; simp [AV.flat, AV.one] at hf)
  obtain ⟨hE, hS', hm, _⟩ := sim_push (e := e) (w' := w.alloc (.cells v.cells e)) (pad := #[]) (lo := 0) (hi := 0) hS hr (by simp [World.alloc, -World.alloc_eq]) (fun _ _ => by omega) rfl rfl rfl
  exact ⟨.pointer (some ⟨w.heap.size, 0, none⟩), _, _, _, _, by simp [Instr.box, newVar, newRow], hE, hS', .ptr _ _ _ _ hm, hk⟩
/-- Cells of a row other ones, from o on. -/
theorem goes_cells {id gen gen' b o : Nat} {e : TypeId} {cs ys : List AV} {us : List Value} (hS : Sim g w H) (ho : H.get id = some (.row e gen cs)) (hb : g.m id gen = some b) (hg : gen' = gen ∨ gen' = gen + 1)
    (hr : Reps g w us.toArray ys) (h1 : ys.all AV.one = true) {n' : Nat} (hsh : w.shape? b = some (e, n')) (hfit : o + ys.length ≤ n') (hoc : o ≤ cs.length) :
    ∃ w', (storeCells ⟨b, o, none⟩ us).run P w = .ok () w' ∧ Ext g w (g.add id gen' b) w' ∧ Sim (g.add id gen' b) w' (H.set id (.row e gen' (cs.take o ++ ys ++ cs.drop (o + ys.length)))) ∧ (g.add id gen' b).m id gen' = some b := by
  obtain ⟨b', cur, lo, hi, q1, q2, q3, q4, q5⟩ := hS.live id _ ho
  rw [hb] at q1
  obtain rfl := Option.some.inj q1
  have hn : cur.size = n' := by
    unfold World.shape? at hsh
    rw [q2] at hsh
    simp only [Option.some.injEq, Prod.mk.injEq] at hsh
    exact hsh.2
  have hlen : us.length = ys.length := by simpa using hr.1
  have hone : ∀ u ∈ us, u.oneCell' = true := by
    intro u hu
    obtain ⟨i, hi⟩ := List.getElem?_of_mem hu
    have hil : i < ys.length := by rw [← hlen]; exact (List.getElem?_eq_some_iff.1 hi).1
    have h2 := hr.2 i u ys[i] (by simpa using hi) (List.getElem?_eq_getElem hil)
    exact one_one h2 (by rw [List.all_eq_true] at h1; exact h1 _ (List.getElem_mem _))
  obtain ⟨w', cur', r1, r2, r3, r4, r5, r6, r7⟩ := run_stores (P := P) us 0 b o w cur e lo hi q2 (by omega) (fun i hi => q3 i (by omega)) hone
  have hc := sim_cells (ys := cs.take o ++ ys ++ cs.drop (o + ys.length)) hS ho hb hg q2 q3 r2 r6 (by simp; omega) (fun i y hy => ?_) r3 r4 r5
  · exact ⟨w', r1, hc.1, hc.2.1, hc.2.2⟩
  · rw [r7 i]
    simp only [Nat.add_zero]
    by_cases hi1 : i < o
    · rw [if_neg (by omega)]
      rw [List.append_assoc, List.getElem?_append_left (by simp; omega), List.getElem?_take, if_pos hi1] at hy
      exact q5 i y hy
    · by_cases hi2 : i < o + ys.length
      · rw [if_pos (by omega)]
        rw [List.append_assoc, List.getElem?_append_right (by simp; omega), List.getElem?_append_left (by simp; omega)] at hy
        have hk : i - (cs.take o).length = i - o := by simp; omega
        rw [hk] at hy
        obtain ⟨u, hu, hrep⟩ := hr.get hy
        exact ⟨u, by simpa using hu, hrep⟩
      · rw [if_neg (by omega)]
        rw [List.getElem?_append_right (by simp; omega), List.getElem?_drop] at hy
        have hk : o + ys.length + (i - (cs.take o ++ ys).length) = i := by simp; omega
        rw [hk] at hy
        exact q5 i y hy
theorem goes_store {t : TypeId} {n : Nat} {p v : Value} {x y : AV} {H' : AHeap} (hS : Sim g w H) (hn : tSize P t = some n) (hx : Rep g w p x) (hv : Rep g w v y) (h : astore H n y x = some H') :
    ∃ w' g', (Instr.storeAt t p v).run P w = .ok () w' ∧ Ext g w g' w' ∧ Sim g' w' H' := by
  unfold astore at h
  split at h <;> (try (cases h; done))
  rename_i id gen off
  split at h <;> (try (cases h; done))
  rename_i e g2 cs ho
  split at h <;> (try (cases h; done))
  rename_i hc
  obtain ⟨rfl, hf, h1, hl, hle⟩ := hc
  obtain rfl := Option.some.inj h
  obtain ⟨b, rfl, hb⟩ := hx.ptr_inv
  have hr := hv.cells (by intro h; subst h; simp [AV.flat, AV.one] at hf)
  obtain ⟨b', cur, lo, hi, q1, q2, q3, q4, q5⟩ := hS.live id _ ho
  rw [hb] at q1
  obtain rfl := Option.some.inj q1
  obtain ⟨w', r1, hE, hS', _⟩ := goes_cells (P := P) (o := off) (us := v.cells.toList) hS ho hb (.inl rfl) (by simpa using hr) h1 (n' := cur.size) (by simp [World.shape?, q2]) (by omega) (by omega)
  rw [hl] at hS'
  refine ⟨w', _, ?_, hE, hS'⟩
  have hsz : v.cells.size = n := by rw [hr.1, hl]
  simp [Instr.storeAt, Instr.sureAddr, storeVar, run_sizeOf hn, hsz, r1]
theorem afill_lit : ∀ (ps : List AV) (sz k : Nat) (pre : List AV), (∀ p ∈ ps, p.flat = true ∧ p.cells.length = sz) → pre.length = k * sz →
    afill (pre ++ List.replicate (ps.length * sz) .top) (ps.zipIdx k |>.map fun p => (p.2 * sz, sz, p.1)) = some (pre ++ ps.flatMap AV.cells)
  | [], sz, k, pre, _, _ => by simp [afill]
  | p :: ps, sz, k, pre, h, hp => by
    have h0 := h p (by simp)
    have hlen : (p :: ps).length * sz = sz + ps.length * sz := by rw [List.length_cons, Nat.succ_mul]; omega
    simp only [List.zipIdx_cons, List.map_cons, afill]
    rw [if_pos ⟨h0.1, h0.2, by rw [List.length_append, List.length_replicate, hp, hlen]; omega⟩]
    have e1 : (pre ++ List.replicate ((p :: ps).length * sz) AV.top).take (k * sz) = pre := by rw [← hp]; simp
    have e2 : (pre ++ List.replicate ((p :: ps).length * sz) AV.top).drop (k * sz + sz) = List.replicate (ps.length * sz) .top := by
      rw [← hp, List.drop_append, List.drop_eq_nil_of_le (by omega), List.nil_append, Nat.add_sub_cancel_left, List.drop_replicate, hlen, Nat.add_sub_cancel_left]
    rw [e1, e2]
    have ih := afill_lit ps sz (k + 1) (pre ++ p.cells) (fun q hq => h q (by simp [hq])) (by simp [hp, h0.2, Nat.succ_mul])
    rw [ih]
    simp
theorem litOk_spec : ∀ (l : List (Nat × Operand)) (k : Nat), litOk k l = true → ∀ (j : Nat) (p : Nat × Operand), l[j]? = some p → p.1 = k + j
  | [], _, _, j, p, h => by simp at h
  | (i, x) :: l, k, h, j, p, hj => by
    simp only [litOk, Bool.and_eq_true, beq_iff_eq] at h
    cases j with
    | zero => simp at hj; subst hj; exact h.1
    | succ j =>
      have := litOk_spec l (k + 1) h.2 j p (by simpa using hj)
      omega
theorem goes_lit {t e : TypeId} {sz n : Nat} {parts : Array (Nat × Value)} {ps : List AV} {K : AV → AHeap → Prop} (hS : Sim g w H) (ht : tElem P t = some (e, sz)) (hn : parts.size = n) (hz : zOk P e sz = true) (hle : n * sz ≤ 16777216) (h0 : 0 < sz)
    (hi : ∀ (j : Nat) (p : Nat × Value), parts[j]? = some p → p.1 = j) (hl : n = ps.length) (hr : ∀ (j : Nat) (p : Nat × Value) (y : AV), parts[j]? = some p → ps[j]? = some y → Rep g w p.2 y)
    (hf : ∀ p ∈ ps, p.flat = true ∧ p.cells.length = sz) (hk : K (.imm sz ps) H) : Goes P g w (Instr.buildSlice t n parts) K := by
  obtain ⟨hu, hs⟩ := tElem_spec ht
  unfold zOk at hz
  split at hz <;> (try (cases hz; done))
  rename_i i hinfo
  split at hz <;> (try (cases hz; done))
  rename_i z hzero
  have hzs : z.cells.size = sz := by simpa using hz
  subst hl
  obtain ⟨zs, hzs2⟩ : ∃ zs : Array Value, (ps.length * sz = 0 ∧ zs = #[]) ∨ (ps.length * sz ≠ 0 ∧ zs = z.cells) := by
    by_cases h : ps.length * sz = 0
    · exact ⟨#[], .inl ⟨h, rfl⟩⟩
    · exact ⟨z.cells, .inr ⟨h, rfl⟩⟩
  have hr0 : Reps g w ((Array.range (ps.length * sz)).map (zs[· % zs.size]!)) (List.replicate (ps.length * sz) .top) := by
    refine ⟨by simp, fun i v y _ hy => ?_⟩
    have : y = .top := by
      have := List.mem_of_getElem? hy
      exact List.eq_of_mem_replicate this
    subst this
    exact .top _
  have hp : ∀ (j : Nat) (p : Nat × Value) (q : Nat × Nat × AV), parts.toList[j]? = some p → (ps.zipIdx 0 |>.map fun p => (p.2 * sz, sz, p.1))[j]? = some q → (fun i => some (i * sz, sz)) p.1 = some (q.1, q.2.1) ∧ Rep g w p.2 q.2.2 := by
    intro j p q h1 h2
    rw [List.getElem?_map] at h2
    obtain ⟨q', hq', rfl⟩ := Option.map_eq_some_iff.1 h2
    rw [List.getElem?_zipIdx] at hq'
    obtain ⟨y, hy, rfl⟩ := Option.map_eq_some_iff.1 hq'
    have hj : parts[j]? = some p := by simpa using h1
    refine ⟨by simp [hi j p hj], hr j p y hj hy⟩
  obtain ⟨cells', hfill, hreps⟩ := fill_rep (g := g) (w := w) (fun i => some (i * sz, sz)) parts.toList (ps.zipIdx 0 |>.map fun p => (p.2 * sz, sz, p.1)) _ _ _ (by simp [hn]) hp hr0 (by simpa using afill_lit ps sz 0 [] hf (by simp))
  · obtain ⟨hE, hS'⟩ := sim_shut (w' := w.alloc (.cells cells' e)) (o := .cells cells' e) hS (by simp [World.alloc, -World.alloc_eq]) rfl rfl rfl
    have hnew : (w.alloc (.cells cells' e)).heap[w.heap.size]? = some (.cells cells' e (0, 0)) := by simp [World.alloc, -World.alloc_eq]
    have hfl := flat_length ps sz (fun p hp => (hf p hp).2)
    refine ⟨.slice (some ⟨w.heap.size, 0, none⟩) ps.length ps.length, _, _, _, _, ?_, hE, hS', ?_, hk⟩
    · have hle' : ¬ (ps.length * sz > 2 ^ 24) := by omega
      simp only [Instr.buildSlice, Sem.run_bind, run_underlying hu, Result.andThen_ok, run_sizeOf hs]
      rw [if_neg hle']
      rcases hzs2 with ⟨h, rfl⟩ | ⟨h, rfl⟩
      · rw [if_pos h]
        simp only [Sem.run_bind, Sem.run_pure, Result.andThen_ok]
        rw [hfill]
        rfl
      · rw [if_neg h]
        simp only [Sem.run_bind, Sem.run_pure, Result.andThen_ok, zeroValue, typeInfo, run_program, hinfo, hzero]
        rw [hfill]
        rfl
    · refine .imm sz ps w.heap.size 0 _ _ (fun k => cells'.getD k undef) rfl (Nat.le_refl _) (by
        have : ps.length * 1 ≤ ps.length * sz := Nat.mul_le_mul_left _ h0
        omega) (.inr rfl) (fun p hp => (hf p hp).2) (fun k hk => ?_) (fun j x i y hj hi => ?_)
      · have hk2 : k < cells'.size := by rw [hreps.1, hfl]; exact hk
        rw [Nat.zero_add, cell_of_row _ _ _ _ _ _ hnew]
        simp [hk2]
      · have h1 := flat_get ps sz j i x y (fun p hp => (hf p hp).2) hj hi
        obtain ⟨u, hu2, hrep⟩ := hreps.get h1
        have : cells'.getD (j * sz + i) undef = u := by
          rw [Array.getD_eq_getD_getElem?, hu2]; rfl
        rw [this]
        exact hrep.ext hE
theorem goes_litw {t e : TypeId} {sz n : Nat} {parts : Array (Nat × Value)} {ps : List AV} {K : AV → AHeap → Prop} (hS : Sim g w H) (ht : tElem P t = some (e, sz)) (hn : parts.size = n) (hz : zOk P e sz = true) (hle : n * sz ≤ 16777216) (h0 : 0 < sz)
    (hi : ∀ (j : Nat) (p : Nat × Value), parts[j]? = some p → p.1 = j) (hl : n = ps.length) (hr : ∀ (j : Nat) (p : Nat × Value) (y : AV), parts[j]? = some p → ps[j]? = some y → Rep g w p.2 y)
    (hf : ∀ p ∈ ps, p.flat = true ∧ p.cells.length = sz) (hk : K (.wr H.next 0 0 ps.length sz) (H.push (.row e 0 (ps.flatMap AV.cells)))) : Goes P g w (Instr.buildSlice t n parts) K := by
  obtain ⟨hu, hs⟩ := tElem_spec ht
  unfold zOk at hz
  split at hz <;> (try (cases hz; done))
  rename_i i hinfo
  split at hz <;> (try (cases hz; done))
  rename_i z hzero
  have hzs : z.cells.size = sz := by simpa using hz
  subst hl
  obtain ⟨zs, hzs2⟩ : ∃ zs : Array Value, (ps.length * sz = 0 ∧ zs = #[]) ∨ (ps.length * sz ≠ 0 ∧ zs = z.cells) := by
    by_cases h : ps.length * sz = 0
    · exact ⟨#[], .inl ⟨h, rfl⟩⟩
    · exact ⟨z.cells, .inr ⟨h, rfl⟩⟩
  have hr0 : Reps g w ((Array.range (ps.length * sz)).map (zs[· % zs.size]!)) (List.replicate (ps.length * sz) .top) := by
    refine ⟨by simp, fun i v y _ hy => ?_⟩
    have : y = .top := by
      have := List.mem_of_getElem? hy
      exact List.eq_of_mem_replicate this
    subst this
    exact .top _
  have hp : ∀ (j : Nat) (p : Nat × Value) (q : Nat × Nat × AV), parts.toList[j]? = some p → (ps.zipIdx 0 |>.map fun p => (p.2 * sz, sz, p.1))[j]? = some q → (fun i => some (i * sz, sz)) p.1 = some (q.1, q.2.1) ∧ Rep g w p.2 q.2.2 := by
    intro j p q h1 h2
    rw [List.getElem?_map] at h2
    obtain ⟨q', hq', rfl⟩ := Option.map_eq_some_iff.1 h2
    rw [List.getElem?_zipIdx] at hq'
    obtain ⟨y, hy, rfl⟩ := Option.map_eq_some_iff.1 hq'
    have hj : parts[j]? = some p := by simpa using h1
    refine ⟨by simp [hi j p hj], hr j p y hj hy⟩
  obtain ⟨cells', hfill, hreps⟩ := fill_rep (g := g) (w := w) (fun i => some (i * sz, sz)) parts.toList (ps.zipIdx 0 |>.map fun p => (p.2 * sz, sz, p.1)) _ _ _ (by simp [hn]) hp hr0 (by simpa using afill_lit ps sz 0 [] hf (by simp))
  · obtain ⟨hE, hS', hm, hsh⟩ := sim_push (e := e) (w' := w.alloc (.cells cells' e)) (us := cells') (pad := #[]) (lo := 0) (hi := 0) hS hreps (by simp [World.alloc, -World.alloc_eq]) (fun _ _ => by omega) rfl rfl rfl
    have hfl := flat_length ps sz (fun p hp => (hf p hp).2)
    have hcs : cells'.size = ps.length * sz := by rw [hreps.1, hfl]
    rw [empty_pad, hcs] at hsh
    refine ⟨.slice (some ⟨w.heap.size, 0, none⟩) ps.length ps.length, _, _, _, _, ?_, hE, hS', .wr _ _ _ _ _ _ _ e _ hm hsh (by omega) (Nat.le_refl _) (by
        have : ps.length * 1 ≤ ps.length * sz := Nat.mul_le_mul_left _ h0
        omega), hk⟩
    have hle' : ¬ (ps.length * sz > 2 ^ 24) := by omega
    simp only [Instr.buildSlice, Sem.run_bind, run_underlying hu, Result.andThen_ok, run_sizeOf hs]
    rw [if_neg hle']
    rcases hzs2 with ⟨h, rfl⟩ | ⟨h, rfl⟩
    · rw [if_pos h]
      simp only [Sem.run_bind, Sem.run_pure, Result.andThen_ok]
      rw [hfill]
      rfl
    · rw [if_neg h]
      simp only [Sem.run_bind, Sem.run_pure, Result.andThen_ok, zeroValue, typeInfo, run_program, hinfo, hzero]
      rw [hfill]
      rfl
theorem goes_litc {t e : TypeId} {sz n : Nat} {parts : Array (Nat × Value)} {ps : List AV} {K : AV → AHeap → Prop} (hS : Sim g w H) (ht : tElem P t = some (e, sz)) (hn : parts.size = n) (hz : zOk P e sz = true) (hle : n * sz ≤ 16777216) (h0 : 0 < sz)
    (hi : ∀ (j : Nat) (p : Nat × Value), parts[j]? = some p → p.1 = j) (hl : n = ps.length) (hr : ∀ (j : Nat) (p : Nat × Value) (y : AV), parts[j]? = some p → ps[j]? = some y → Rep g w p.2 y)
    (hf : ∀ p ∈ ps, p.flat = true ∧ p.cells.length = sz) (hk : K (.wc H.next 0 0 ps.length ps.length sz) (H.push (.row e 0 (ps.flatMap AV.cells)))) : Goes P g w (Instr.buildSlice t n parts) K := by
  obtain ⟨hu, hs⟩ := tElem_spec ht
  unfold zOk at hz
  split at hz <;> (try (cases hz; done))
  rename_i i hinfo
  split at hz <;> (try (cases hz; done))
  rename_i z hzero
  have hzs : z.cells.size = sz := by simpa using hz
  subst hl
  obtain ⟨zs, hzs2⟩ : ∃ zs : Array Value, (ps.length * sz = 0 ∧ zs = #[]) ∨ (ps.length * sz ≠ 0 ∧ zs = z.cells) := by
    by_cases h : ps.length * sz = 0
    · exact ⟨#[], .inl ⟨h, rfl⟩⟩
    · exact ⟨z.cells, .inr ⟨h, rfl⟩⟩
  have hr0 : Reps g w ((Array.range (ps.length * sz)).map (zs[· % zs.size]!)) (List.replicate (ps.length * sz) .top) := by
    refine ⟨by simp, fun i v y _ hy => ?_⟩
    have : y = .top := by
      have := List.mem_of_getElem? hy
      exact List.eq_of_mem_replicate this
    subst this
    exact .top _
  have hp : ∀ (j : Nat) (p : Nat × Value) (q : Nat × Nat × AV), parts.toList[j]? = some p → (ps.zipIdx 0 |>.map fun p => (p.2 * sz, sz, p.1))[j]? = some q → (fun i => some (i * sz, sz)) p.1 = some (q.1, q.2.1) ∧ Rep g w p.2 q.2.2 := by
    intro j p q h1 h2
    rw [List.getElem?_map] at h2
    obtain ⟨q', hq', rfl⟩ := Option.map_eq_some_iff.1 h2
    rw [List.getElem?_zipIdx] at hq'
    obtain ⟨y, hy, rfl⟩ := Option.map_eq_some_iff.1 hq'
    have hj : parts[j]? = some p := by simpa using h1
    refine ⟨by simp [hi j p hj], hr j p y hj hy⟩
  obtain ⟨cells', hfill, hreps⟩ := fill_rep (g := g) (w := w) (fun i => some (i * sz, sz)) parts.toList (ps.zipIdx 0 |>.map fun p => (p.2 * sz, sz, p.1)) _ _ _ (by simp [hn]) hp hr0 (by simpa using afill_lit ps sz 0 [] hf (by simp))
  · obtain ⟨hE, hS', hm, hsh⟩ := sim_push (e := e) (w' := w.alloc (.cells cells' e)) (us := cells') (pad := #[]) (lo := 0) (hi := 0) hS hreps (by simp [World.alloc, -World.alloc_eq]) (fun _ _ => by omega) rfl rfl rfl
    have hfl := flat_length ps sz (fun p hp => (hf p hp).2)
    have hcs : cells'.size = ps.length * sz := by rw [hreps.1, hfl]
    rw [empty_pad, hcs] at hsh
    refine ⟨.slice (some ⟨w.heap.size, 0, none⟩) ps.length ps.length, _, _, _, _, ?_, hE, hS', .wc _ _ _ _ _ _ _ e _ hm hsh (by omega) (Nat.le_refl _) (by
        have : ps.length * 1 ≤ ps.length * sz := Nat.mul_le_mul_left _ h0
        omega), hk⟩
    have hle' : ¬ (ps.length * sz > 2 ^ 24) := by omega
    simp only [Instr.buildSlice, Sem.run_bind, run_underlying hu, Result.andThen_ok, run_sizeOf hs]
    rw [if_neg hle']
    rcases hzs2 with ⟨h, rfl⟩ | ⟨h, rfl⟩
    · rw [if_pos h]
      simp only [Sem.run_bind, Sem.run_pure, Result.andThen_ok]
      rw [hfill]
      rfl
    · rw [if_neg h]
      simp only [Sem.run_bind, Sem.run_pure, Result.andThen_ok, zeroValue, typeInfo, run_program, hinfo, hzero]
      rw [hfill]
      rfl
end
end Go.Proofs.YtmdgjfadbhenjaaGreatDoor.AL
/- append, copy, make, []byte(s): what they do to the machine's memory is what is told of them. -/
set_option linter.unusedVariables false
set_option linter.unusedSimpArgs false
namespace Go.Proofs.YtmdgjfadbhenjaaGreatDoor.AL
open Go
section
variable {P : Program} {g : Ghost} {w : World} {H : AHeap}
theorem noInt_spec {u : TypeId} (h : noInt P u = true) : P.underlying u = some .string ∨ ∃ e, P.underlying u = some (.slice e) := by
  unfold noInt at h
  split at h
  · exact .inl (by assumption)
  · exact .inr ⟨_, by assumption⟩
  · cases h
theorem run_app_nil {t u ty e : TypeId} {sz : Nat} (ht : P.underlying t = some (.slice e)) (hs : tSize P e = some sz) (hu : P.underlying u = some .string ∨ ∃ e, P.underlying u = some (.slice e)) {vx : Value} (hl : (Builtin.lenOf vx).run P w = .ok 0 w)
    {us : Array Value} (hf : (Builtin.firstCells sz 0 vx).run P w = .ok us w) : (Builtin.append_ #[t, u] ty #[.slice none 0 0, vx]).run P w = .ok (.slice none 0 0) w := by
  rcases hu with hu | ⟨e', hu⟩ <;> simp [Builtin.append_, run_underlying ht, run_underlying hu, run_sizeOf hs, hl, hf]
theorem run_app_room {t u ty e : TypeId} {sz : Nat} (ht : P.underlying t = some (.slice e)) (hs : tSize P e = some sz) (hu : P.underlying u = some .string ∨ ∃ e, P.underlying u = some (.slice e)) {vx : Value} {n : Nat} (hl : (Builtin.lenOf vx).run P w = .ok n w)
    {us : Array Value} (hf : (Builtin.firstCells sz n vx).run P w = .ok us w) (a : Addr) (sLen sCap : Nat) (hroom : sLen + n ≤ sCap) {w' : World} (hst : (storeCells (a.add (sLen * sz)) us.toList).run P w = .ok () w') :
    (Builtin.append_ #[t, u] ty #[.slice (some a) sLen sCap, vx]).run P w = .ok (.slice (some a) (sLen + n) sCap) w' := by
  rcases hu with hu | ⟨e', hu⟩ <;> simp [Builtin.append_, run_underlying ht, run_underlying hu, run_sizeOf hs, hl, hf, hroom, hst]
theorem run_app_grow {t u ty e : TypeId} {sz : Nat} {i : TypeInfo} {z : Value} (ht : P.underlying t = some (.slice e)) (hi : P.info? e = some i) (hz : i.zero = some z) (hs : i.size = sz) (hu : P.underlying u = some .string ∨ ∃ e, P.underlying u = some (.slice e)) {vx : Value} {n : Nat} (hl : (Builtin.lenOf vx).run P w = .ok n w)
    {us olds : Array Value} (hf : (Builtin.firstCells sz n vx).run P w.drew = .ok us w.drew) (b : Option Addr) (sLen sCap : Nat) (ho : (Builtin.firstCells sz sLen (.slice b sLen sCap)).run P w.drew = .ok olds w.drew) (hg : sCap < sLen + n) (hb : (sLen + n) * i.bytes ≤ 140737488355328) (hp : 0 < i.bytes) :
    (Builtin.append_ #[t, u] ty #[.slice b sLen sCap, vx]).run P w = .ok (.slice (some ⟨w.heap.size, 0, none⟩) (sLen + n) (grownCap w (sLen + n) sCap e)) (w.drew.alloc (.cells (olds ++ us ++ Builtin.zeroCells z.cells (grownCap w (sLen + n) sCap e - (sLen + n))) e)) := by
  have hn : ¬ (sLen + n ≤ sCap) := by omega
  have h1 : (sLen + n) * 1 ≤ (sLen + n) * i.bytes := Nat.mul_le_mul_left _ hp
  have h63' : ¬ (9223372036854775807 < ((sLen : Int) + (n : Int))) := by omega
  have hfit := growslice_fits hg hb
  have h48' : ¬ (281474976710656 < Builtin.nextslicecap (sLen + n) sCap * i.bytes) := by omega
  subst hs
  rcases hu with hu | ⟨e', hu⟩ <;> simp [Builtin.append_, run_underlying ht, run_underlying hu, sizeOf, typeInfo, zeroValue, hi, hz, hl, hn, h63', h48', Question.forced, hf, ho, newRow, grownCap]
theorem pad_spec (z : Array Value) (n : Nat) : (Builtin.zeroCells z n).size = n * z.size := by simp [Builtin.zeroCells]
theorem goes_app {t u ty e : TypeId} {sz by_ : Nat} {zs : List AV} {vs vx : Value} {s x y : AV} {H' : AHeap} (hS : Sim g w H) (ht : tElem P t = some (e, sz)) (hu : noInt P u = true) (hby : tBytes P e = some by_) (hz : tZero P e = some zs) (hzl : zs.length = sz) (hsz : 0 < sz) (hbp : 0 < by_)
    (hs : Rep g w vs s) (hx : Rep g w vx x) (h : aapp e sz by_ H s x = some (y, H')) :
    ∃ v w' g', (Builtin.append_ #[t, u] ty #[vs, vx]).run P w = .ok v w' ∧ Ext g w g' w' ∧ Sim g' w' H' ∧ Rep g' w' v y := by
  obtain ⟨hut, hse⟩ := tElem_spec ht
  have hud := noInt_spec hu
  obtain ⟨i, z, hi, hz1, hz2⟩ := zero_spec hz
  have hsi : i.size = sz := by unfold tSize at hse; rw [hi] at hse; simpa using hse
  have hbi : i.bytes = by_ := by unfold tBytes at hby; rw [hi] at hby; simpa using hby
  have hzc : z.cells.size = sz := by
    have := (trV_reps (g := g) (w := w) _ _ hz2).1
    simp at this
    omega
  unfold aapp at h
  split at h <;> (try (cases h; done))
  rename_i n ys hc
  split at h <;> (try (cases h; done))
  rename_i hone
  obtain ⟨hl, hyl, hfirst⟩ := run_first (P := P) hS hx hc
  obtain ⟨us, hus, hrun⟩ := hfirst n (Nat.le_refl _)
  rw [List.take_of_length_le (by omega)] at hus
  have hul : us.length = ys.length := by simpa using hus.1
  split at h <;> (try (cases h; done))
  · cases hs
    split at h
    · rename_i hn
      subst hn
      simp only [Option.some.injEq, Prod.mk.injEq] at h
      obtain ⟨rfl, rfl⟩ := h
      exact ⟨_, _, _, run_app_nil hut hse hud hl (hrun w rfl), Ext.refl _ _, hS, .nils⟩
    · rename_i hn
      split at h <;> (try (cases h; done))
      rename_i hb
      simp only [Option.some.injEq, Prod.mk.injEq] at h
      obtain ⟨rfl, rfl⟩ := h
      have hr := run_app_grow (t := t) (u := u) (ty := ty) (w := w) hut hi hz1 hsi hud hl (hrun w.drew rfl) none 0 0 (olds := #[]) (by simp [Builtin.firstCells]) (by omega) (by rw [hbi, Nat.zero_add]; exact hb) (by omega)
      simp only [Nat.zero_add, Array.empty_append] at hr
      have hge := grownCap_ge w n 0 e
      obtain ⟨hE, hS', hm, hsh⟩ := sim_push (e := e) (lo := 0) (hi := 0) (us := us.toArray) (pad := Builtin.zeroCells z.cells (grownCap w n 0 e - n)) (w' := w.drew.alloc (.cells (us.toArray ++ Builtin.zeroCells z.cells (grownCap w n 0 e - n)) e)) hS hus
        (by simp [World.alloc, World.drew, -World.alloc_eq, -World.drew_eq]) (fun _ _ => by omega) rfl rfl rfl
      have hlen : (us.toArray ++ Builtin.zeroCells z.cells (grownCap w n 0 e - n)).size = grownCap w n 0 e * sz := by
        rw [Array.size_append, pad_spec, hzc, List.size_toArray, hul, hyl, ← Nat.add_mul]
        congr 1
        omega
      have h1 : n * 1 ≤ n * by_ := Nat.mul_le_mul_left _ hbp
      refine ⟨_, _, _, hr, hE, hS', ?_⟩
      rw [hlen] at hsh
      exact .wr _ _ _ _ _ _ _ e _ hm hsh (by omega) hge (by
        have := grownCap_le_maxLen w n 0 e (by unfold maxLen; omega)
        unfold maxLen at this
        omega)
  · rename_i id gen len s2
    split at h <;> (try (cases h; done))
    rename_i e2 g2 cs ho
    split at h <;> (try (cases h; done))
    rename_i hcc
    obtain ⟨rfl, rfl, rfl, hcl, hb⟩ := hcc
    simp only [Option.some.injEq, Prod.mk.injEq] at h
    obtain ⟨rfl, rfl⟩ := h
    obtain ⟨b, c, e', n', rfl, h1, h2, h3, h4, h5⟩ := hs.wr_inv
    have he : e' = e2 := by
      obtain ⟨b', cur, lo, hi', q1, q2, _⟩ := hS.live id _ ho
      rw [h1] at q1
      obtain rfl := Option.some.inj q1
      unfold World.shape? at h2
      rw [q2] at h2
      simp only [Option.some.injEq, Prod.mk.injEq] at h2
      exact h2.1.symm
    subst he
    by_cases hroom : len + n ≤ c
    · have hfit : len * s2 + ys.length ≤ n' := by
        have : len * s2 + n * s2 ≤ c * s2 := by rw [← Nat.add_mul]; exact Nat.mul_le_mul_right _ hroom
        omega
      obtain ⟨w', r1, hE, hS', hm⟩ := goes_cells (P := P) (gen' := g2 + 1) (o := len * s2) hS ho h1 (.inr rfl) hus hone h2 hfit (by omega)
      have hst : (storeCells ((⟨b, 0, none⟩ : Addr).add (len * s2)) us).run P w = .ok () w' := by
        rw [Addr.add_lit, Nat.zero_add]; exact r1
      have hr := run_app_room (t := t) (u := u) (ty := ty) (w := w) hut hse hud hl (hrun w rfl) ⟨b, 0, none⟩ len c hroom hst
      have e1 : cs.take (len * s2) ++ ys ++ cs.drop (len * s2 + ys.length) = cs ++ ys := by
        rw [← hcl, List.take_length, List.drop_eq_nil_of_le (by omega), List.append_nil]
      rw [e1] at hS'
      exact ⟨_, _, _, hr, hE, hS', .wr _ _ _ _ _ _ c e' n' hm (hE.shape _ _ h2) h3 hroom h5⟩
    · have hxs : acells H s2 (.wr id g2 0 len s2) = some (len, cs) := by
        have h7 : (cs.drop 0).take (len * s2) = cs := by rw [List.drop_zero, List.take_of_length_le (by omega)]
        simp [acells, ho, hcl, List.take_of_length_le (show cs.length ≤ len * s2 by omega)]
      obtain ⟨_, _, hfo⟩ := run_first (P := P) hS hs hxs
      obtain ⟨os, hos, hro⟩ := hfo len (Nat.le_refl _)
      rw [List.take_of_length_le (by omega)] at hos
      have hol : os.length = cs.length := by simpa using hos.1
      have hr := run_app_grow (t := t) (u := u) (ty := ty) (w := w) hut hi hz1 hsi hud hl (hrun w.drew rfl) (some ⟨b, 0, none⟩) len c (hro w.drew rfl) (by omega) (by rw [hbi]; exact hb) (by omega)
      have hge := grownCap_ge w (len + n) c e'
      have hboth : Reps g w (os.toArray ++ us.toArray) (cs ++ ys) := by
        refine ⟨by simp; omega, fun k v y hv hy => ?_⟩
        by_cases hk : k < cs.length
        · rw [List.getElem?_append_left hk] at hy
          rw [Array.getElem?_append_left (by simp; omega)] at hv
          exact hos.2 k v y hv hy
        · rw [List.getElem?_append_right (by omega)] at hy
          rw [Array.getElem?_append_right (by simp; omega)] at hv
          simp only [List.size_toArray, hol] at hv
          exact hus.2 _ v y hv hy
      obtain ⟨hE, hS', hm, hsh⟩ := sim_grow (lo := 0) (hi := 0) (us := os.toArray ++ us.toArray) (pad := Builtin.zeroCells z.cells (grownCap w (len + n) c e' - (len + n))) (w' := w.drew.alloc (.cells (os.toArray ++ us.toArray ++ Builtin.zeroCells z.cells (grownCap w (len + n) c e' - (len + n))) e')) hS ho hboth
        (by simp [World.alloc, World.drew, -World.alloc_eq, -World.drew_eq]) (fun _ _ => by omega) rfl rfl rfl
      have hlen : (os.toArray ++ us.toArray ++ Builtin.zeroCells z.cells (grownCap w (len + n) c e' - (len + n))).size = grownCap w (len + n) c e' * s2 := by
        rw [Array.size_append, Array.size_append, pad_spec, hzc, List.size_toArray, List.size_toArray, hul, hol, hyl, hcl, ← Nat.add_mul, ← Nat.add_mul]
        congr 1
        omega
      have h6 : (len + n) * 1 ≤ (len + n) * by_ := Nat.mul_le_mul_left _ hbp
      refine ⟨_, _, _, hr, hE, hS', ?_⟩
      rw [hlen] at hsh
      exact .wr _ _ _ _ _ _ _ e' _ hm hsh (by omega) hge (by
        have := grownCap_le_maxLen w (len + n) c e' (by unfold maxLen; omega)
        unfold maxLen at this
        omega)
  · rename_i id gen off len c s2
    split at h <;> (try (cases h; done))
    rename_i e2 g2 cs ho
    split at h <;> (try (cases h; done))
    rename_i hcc
    obtain ⟨rfl, rfl, rfl, hcl, hb⟩ := hcc
    obtain ⟨b, e', n', rfl, h1, h2, h3, h4, h5⟩ := hs.wc_inv
    have he : e' = e2 := by
      obtain ⟨b', cur, lo, hi', q1, q2, _⟩ := hS.live id _ ho
      rw [h1] at q1
      obtain rfl := Option.some.inj q1
      unfold World.shape? at h2
      rw [q2] at h2
      simp only [Option.some.injEq, Prod.mk.injEq] at h2
      exact h2.1.symm
    subst he
    split at h
    · rename_i hroom
      simp only [Option.some.injEq, Prod.mk.injEq] at h
      obtain ⟨rfl, rfl⟩ := h
      have hfit0 : len * s2 + n * s2 ≤ c * s2 := by rw [← Nat.add_mul]; exact Nat.mul_le_mul_right _ hroom
      obtain ⟨w', r1, hE, hS', hm⟩ := goes_cells (P := P) (gen' := g2) (o := off + len * s2) hS ho h1 (.inl rfl) hus hone h2 (by omega) (by omega)
      have hst : (storeCells ((⟨b, off, none⟩ : Addr).add (len * s2)) us).run P w = .ok () w' := by
        rw [Addr.add_lit]; exact r1
      have hr := run_app_room (t := t) (u := u) (ty := ty) (w := w) hut hse hud hl (hrun w rfl) ⟨b, off, none⟩ len c hroom hst
      exact ⟨_, _, _, hr, hE, hS', .wc _ _ _ _ _ _ _ e' n' hm (hE.shape _ _ h2) h3 hroom h5⟩
    · rename_i hroom
      split at h <;> (try (cases h; done))
      rename_i hold
      simp only [Option.some.injEq, Prod.mk.injEq] at h
      obtain ⟨rfl, rfl⟩ := h
      have hcs : len * s2 ≤ c * s2 := Nat.mul_le_mul_right _ h4
      have hxs : acells H s2 (.wc id g2 off len c s2) = some (len, (cs.drop off).take (len * s2)) := by
        simp only [acells, if_true, ho]
        rw [if_pos ⟨trivial, by omega⟩]
      obtain ⟨_, hol0, hfo⟩ := run_first (P := P) hS hs hxs
      obtain ⟨os, hos, hro⟩ := hfo len (Nat.le_refl _)
      rw [List.take_of_length_le (Nat.le_of_eq hol0)] at hos
      generalize (cs.drop off).take (len * s2) = olds at *
      have hol : os.length = olds.length := by simpa using hos.1
      have hr := run_app_grow (t := t) (u := u) (ty := ty) (w := w) hut hi hz1 hsi hud hl (hrun w.drew rfl) (some ⟨b, off, none⟩) len c (hro w.drew rfl) (by omega) (by rw [hbi]; exact hb) (by omega)
      have hge := grownCap_ge w (len + n) c e'
      have hboth : Reps g w (os.toArray ++ us.toArray) (olds ++ ys) := by
        refine ⟨by simp; omega, fun k v y hv hy => ?_⟩
        by_cases hk : k < olds.length
        · rw [List.getElem?_append_left hk] at hy
          rw [Array.getElem?_append_left (by simp; omega)] at hv
          exact hos.2 k v y hv hy
        · rw [List.getElem?_append_right (by omega)] at hy
          rw [Array.getElem?_append_right (by simp; omega)] at hv
          simp only [List.size_toArray, hol] at hv
          exact hus.2 _ v y hv hy
      obtain ⟨hE, hS', hm, hsh⟩ := sim_push (e := e') (lo := 0) (hi := 0) (us := os.toArray ++ us.toArray) (pad := Builtin.zeroCells z.cells (grownCap w (len + n) c e' - (len + n))) (w' := w.drew.alloc (.cells (os.toArray ++ us.toArray ++ Builtin.zeroCells z.cells (grownCap w (len + n) c e' - (len + n))) e')) hS hboth
        (by simp [World.alloc, World.drew, -World.alloc_eq, -World.drew_eq]) (fun _ _ => by omega) rfl rfl rfl
      have hlen : (os.toArray ++ us.toArray ++ Builtin.zeroCells z.cells (grownCap w (len + n) c e' - (len + n))).size = grownCap w (len + n) c e' * s2 := by
        rw [Array.size_append, Array.size_append, pad_spec, hzc, List.size_toArray, List.size_toArray, hul, hol, hyl, hol0, ← Nat.add_mul, ← Nat.add_mul]
        congr 1
        omega
      have h6 : (len + n) * 1 ≤ (len + n) * by_ := Nat.mul_le_mul_left _ hbp
      refine ⟨_, _, _, hr, hE, hS', ?_⟩
      rw [hlen] at hsh
      exact .wr _ _ _ _ _ _ _ e' _ hm hsh (by omega) hge (by
        have := grownCap_le_maxLen w (len + n) c e' (by unfold maxLen; omega)
        unfold maxLen at this
        omega)
theorem goes_copy {t u ty e : TypeId} {sz : Nat} {vd vx : Value} {dd x y : AV} {H' : AHeap} (hS : Sim g w H) (ht : tElem P t = some (e, sz)) (hd : Rep g w vd dd) (hx : Rep g w vx x) (h : acopy sz H dd x = some (y, H')) :
    ∃ v w' g', (Builtin.copy_ #[t, u] ty #[vd, vx]).run P w = .ok v w' ∧ Ext g w g' w' ∧ Sim g' w' H' ∧ Rep g' w' v y := by
  obtain ⟨hut, hse⟩ := tElem_spec ht
  unfold acopy at h
  split at h <;> (try (cases h; done))
  rename_i n ys hc
  obtain ⟨hl, hyl, hfirst⟩ := run_first (P := P) hS hx hc
  split at h
  · rename_i id gen off len cc s2
    split at h <;> (try (cases h; done))
    rename_i e2 g2 cs ho
    split at h <;> (try (cases h; done))
    rename_i hcc
    obtain ⟨rfl, rfl, hle, hone⟩ := hcc
    simp only [Option.some.injEq, Prod.mk.injEq] at h
    obtain ⟨rfl, rfl⟩ := h
    obtain ⟨b, c, e', n', rfl, h1, h2, h3, h4, h5⟩ := hd.wc_wr.wr_inv
    have he : e' = e2 := by
      obtain ⟨b', cur, lo, hi', q1, q2, _⟩ := hS.live id _ ho
      rw [h1] at q1
      obtain rfl := Option.some.inj q1
      unfold World.shape? at h2
      rw [q2] at h2
      simp only [Option.some.injEq, Prod.mk.injEq] at h2
      exact h2.1.symm
    subst he
    obtain ⟨us, hus, hrun⟩ := hfirst (min n len) (Nat.min_le_left _ _)
    have hyl2 : (ys.take (min n len * s2)).length = min n len * s2 := by
      have : min n len * s2 ≤ n * s2 := Nat.mul_le_mul_right _ (Nat.min_le_left _ _)
      simp
      omega
    have hml : min n len * s2 ≤ len * s2 := Nat.mul_le_mul_right _ (Nat.min_le_right _ _)
    have hlc : len * s2 ≤ c * s2 := Nat.mul_le_mul_right _ h4
    obtain ⟨w', r1, hE, hS', hm⟩ := goes_cells (P := P) (gen' := g2) (o := off) hS ho h1 (.inl rfl) hus hone h2 (by omega) (by omega)
    rw [hyl2] at hS'
    refine ⟨.int .i64 (min n len : Nat), w', _, ?_, hE, hS', .int _ _⟩
    have hmin : Nat.min n len = min n len := rfl
    simp [Builtin.copy_, run_underlying hut, run_sizeOf hse, hl, hmin, hrun w rfl, r1, goInt]
  split at h <;> (try (cases h; done))
  rename_i hone
  split at h <;> (try (cases h; done))
  · simp only [Option.some.injEq, Prod.mk.injEq] at h
    obtain ⟨rfl, rfl⟩ := h
    cases hd
    obtain ⟨us, hus, hrun⟩ := hfirst 0 (Nat.zero_le _)
    exact ⟨.int .i64 0, w, g, by simp [Builtin.copy_, run_underlying hut, run_sizeOf hse, hl, hrun w rfl, goInt, Nat.min_zero], Ext.refl _ _, hS, .int _ _⟩
  · simp only [Option.some.injEq, Prod.mk.injEq] at h
    obtain ⟨rfl, rfl⟩ := h
    cases hd
    obtain ⟨us, hus, hrun⟩ := hfirst 0 (Nat.zero_le _)
    have : us = [] := by
      have := hus.1
      simp at this
      exact this
    subst this
    exact ⟨.int .i64 0, w, g, by simp [Builtin.copy_, run_underlying hut, run_sizeOf hse, hl, hrun w rfl, goInt, Nat.min_zero, storeCells], Ext.refl _ _, hS, .int _ _⟩
  · rename_i id gen off len s2 hnw
    split at h <;> (try (cases h; done))
    rename_i e2 g2 cs ho
    split at h <;> (try (cases h; done))
    rename_i hcc
    obtain ⟨rfl, rfl, hle⟩ := hcc
    simp only [Option.some.injEq, Prod.mk.injEq] at h
    obtain ⟨rfl, rfl⟩ := h
    obtain ⟨b, c, e', n', rfl, h1, h2, h3, h4, h5⟩ := hd.wr_inv
    have he : e' = e2 := by
      obtain ⟨b', cur, lo, hi', q1, q2, _⟩ := hS.live id _ ho
      rw [h1] at q1
      obtain rfl := Option.some.inj q1
      unfold World.shape? at h2
      rw [q2] at h2
      simp only [Option.some.injEq, Prod.mk.injEq] at h2
      exact h2.1.symm
    subst he
    obtain ⟨us, hus, hrun⟩ := hfirst (min n len) (Nat.min_le_left _ _)
    have hyl2 : (ys.take (min n len * s2)).length = min n len * s2 := by
      have : min n len * s2 ≤ n * s2 := Nat.mul_le_mul_right _ (Nat.min_le_left _ _)
      simp
      omega
    have hml : min n len * s2 ≤ len * s2 := Nat.mul_le_mul_right _ (Nat.min_le_right _ _)
    have hlc : len * s2 ≤ c * s2 := Nat.mul_le_mul_right _ h4
    obtain ⟨w', r1, hE, hS', hm⟩ := goes_cells (P := P) (gen' := g2) (o := off) hS ho h1 (.inl rfl) hus (by rw [List.all_eq_true] at hone ⊢; exact fun y hy => hone y (List.mem_of_mem_take hy)) h2 (by omega) (by omega)
    rw [hyl2] at hS'
    refine ⟨.int .i64 (min n len : Nat), w', _, ?_, hE, hS', .int _ _⟩
    have hmin : Nat.min n len = min n len := rfl
    simp [Builtin.copy_, run_underlying hut, run_sizeOf hse, hl, hmin, hrun w rfl, r1, goInt]
theorem rep_flat {zs : List AV} {sz : Nat} (hzl : zs.length = sz) (hsz : 0 < sz) : ∀ (m k : Nat), k < m * sz → (List.replicate m zs).flatten[k]? = zs[k % sz]? := by
  intro m
  induction m with
  | zero => intro k hk; simp at hk
  | succ m ih =>
    intro k hk
    rw [List.replicate_succ, List.flatten_cons]
    by_cases hks : k < sz
    · rw [List.getElem?_append_left (by omega), Nat.mod_eq_of_lt hks]
    · rw [List.getElem?_append_right (by omega), hzl, ih (k - sz) (by rw [Nat.succ_mul] at hk; omega)]
      congr 1
      rw [← Nat.mod_eq_sub_mod (by omega)]
theorem zeros_rep {z : Value} {zs : List AV} {sz m : Nat} (hrz : Reps g w z.cells zs) (hzl : zs.length = sz) (hsz : 0 < sz) : Reps g w (Builtin.zeroCells z.cells m) (List.replicate m zs).flatten := by
  have hzc : z.cells.size = sz := by rw [hrz.1, hzl]
  have hlz : (List.replicate m zs).flatten.length = m * sz := by simp [hzl]
  refine ⟨by rw [pad_spec, hlz, hzc], fun k v y hv hy => ?_⟩
  have hk : k < m * sz := by rw [← hlz]; exact (List.getElem?_eq_some_iff.1 hy).1
  have hkm : k % sz < sz := Nat.mod_lt _ hsz
  rw [rep_flat hzl hsz m k hk] at hy
  have hv2 : z.cells[k % sz]? = some v := by
    simp [Builtin.zeroCells, hzc, hk] at hv
    rw [← hv]
    have : k % sz < z.cells.size := by omega
    simp [this]
  exact hrz.2 _ v y hv2 hy
theorem run_appz_grow {t u ty e : TypeId} {sz : Nat} {i : TypeInfo} {z : Value} (ht : P.underlying t = some (.slice e)) (hi : P.info? e = some i) (hz : i.zero = some z) (hs : i.size = sz) (hu : P.underlying u = some (.int .i64)) (m : Int) (h0 : 0 ≤ m)
    {olds : Array Value} (b : Option Addr) (sLen sCap : Nat) (ho : (Builtin.firstCells sz sLen (.slice b sLen sCap)).run P w.drew = .ok olds w.drew) (hg : sCap < sLen + m.toNat) (hb : (sLen + m.toNat) * i.bytes ≤ 140737488355328) (hp : 0 < i.bytes) (hsz : 0 < sz) (hn0 : 0 < m.toNat) :
    (Builtin.append_ #[t, u] ty #[.slice b sLen sCap, .int .i64 m]).run P w = .ok (.slice (some ⟨w.heap.size, 0, none⟩) (sLen + m.toNat) (grownCap w (sLen + m.toNat) sCap e)) (w.drew.alloc (.cells (olds ++ Builtin.zeroCells z.cells m.toNat ++ Builtin.zeroCells z.cells (grownCap w (sLen + m.toNat) sCap e - (sLen + m.toNat))) e)) := by
  have hn : ¬ (sLen + m.toNat ≤ sCap) := by omega
  have h1 : (sLen + m.toNat) * 1 ≤ (sLen + m.toNat) * i.bytes := Nat.mul_le_mul_left _ hp
  have h63' : ¬ (9223372036854775807 < ((sLen : Int) + (m.toNat : Int))) := by omega
  have hfit := growslice_fits hg hb
  have h48' : ¬ (281474976710656 < Builtin.nextslicecap (sLen + m.toNat) sCap * i.bytes) := by omega
  have hw : IntKind.i64.wrap m = m := by rw [IntKind.wrap_i64]; omega
  have hneg : ¬ (m < 0) := by omega
  have hle : m.toNat * i.bytes ≤ (sLen + m.toNat) * i.bytes := Nat.mul_le_mul_right _ (by omega)
  have h48i : ¬ (281474976710656 < m * (i.bytes : Int)) := by
    have : m * (i.bytes : Int) = ((m.toNat * i.bytes : Nat) : Int) := by rw [Int.natCast_mul, Int.toNat_of_nonneg h0]
    rw [this]
    omega
  have hns : ¬ (m.toNat * i.size = 0) := Nat.mul_ne_zero (by omega) (by omega)
  subst hs
  generalize hmm : m.toNat = k at *
  have h63b : ¬ (9223372036854775807 < (sLen : Int) + max m 0) := by omega
  simp [Builtin.append_, run_underlying ht, run_underlying hu, sizeOf, typeInfo, zeroValue, hi, hz, asInt, asIntOf, hw, hneg, h48i, hmm, hn, h63', h63b, h48', hns, Question.forced, ho, newRow, grownCap]
theorem goes_appz {t u ty e : TypeId} {sz by_ : Nat} {zs : List AV} {vs vx : Value} {s x y : AV} {H' : AHeap} (hS : Sim g w H) (ht : tElem P t = some (e, sz)) (hu : P.underlying u = some (.int .i64)) (hby : tBytes P e = some by_) (hz : tZero P e = some zs) (hzl : zs.length = sz) (hsz : 0 < sz) (hbp : 0 < by_)
    (hs : Rep g w vs s) (hx : Rep g w vx x) (h : aappz e sz by_ zs H s x = some (y, H')) :
    ∃ v w' g', (Builtin.append_ #[t, u] ty #[vs, vx]).run P w = .ok v w' ∧ Ext g w g' w' ∧ Sim g' w' H' ∧ Rep g' w' v y := by
  obtain ⟨hut, hse⟩ := tElem_spec ht
  obtain ⟨i, z, hi, hz1, hz2⟩ := zero_spec hz
  have hsi : i.size = sz := by unfold tSize at hse; rw [hi] at hse; simpa using hse
  have hbi : i.bytes = by_ := by unfold tBytes at hby; rw [hi] at hby; simpa using hby
  have hrz : Reps g w z.cells zs := by simpa using trV_reps (g := g) (w := w) _ _ hz2
  have hzc : z.cells.size = sz := by rw [hrz.1, hzl]
  unfold aappz at h
  split at h <;> (try (cases h; done))
  rename_i id gen off len c s2 m
  split at h <;> (try (cases h; done))
  rename_i e2 g2 cs ho
  split at h <;> (try (cases h; done))
  rename_i hcc
  obtain ⟨rfl, rfl, rfl, hcl, hm0, hroom, hb, hold⟩ := hcc
  simp only [Option.some.injEq, Prod.mk.injEq] at h
  obtain ⟨rfl, rfl⟩ := h
  cases hx
  obtain ⟨b, e', n', rfl, h1, h2, h3, h4, h5⟩ := hs.wc_inv
  have he : e' = e2 := by
    obtain ⟨b', cur, lo, hi', q1, q2, _⟩ := hS.live id _ ho
    rw [h1] at q1
    obtain rfl := Option.some.inj q1
    unfold World.shape? at h2
    rw [q2] at h2
    simp only [Option.some.injEq, Prod.mk.injEq] at h2
    exact h2.1.symm
  subst he
  have hcs : len * s2 ≤ c * s2 := Nat.mul_le_mul_right _ h4
  have hxs : acells H s2 (.wc id g2 off len c s2) = some (len, (cs.drop off).take (len * s2)) := by
    simp only [acells, if_true, ho]
    rw [if_pos ⟨trivial, by omega⟩]
  obtain ⟨_, hol0, hfo⟩ := run_first (P := P) hS hs hxs
  obtain ⟨os, hos, hro⟩ := hfo len (Nat.le_refl _)
  rw [List.take_of_length_le (Nat.le_of_eq hol0)] at hos
  generalize (cs.drop off).take (len * s2) = olds at *
  have hol : os.length = olds.length := by simpa using hos.1
  have hr := run_appz_grow (t := t) (u := u) (ty := ty) (w := w) hut hi hz1 hsi hu m hm0 (some ⟨b, off, none⟩) len c (hro w.drew rfl) (by omega) (by rw [hbi]; exact hb) (by omega) hsz (by omega)
  have hzr := zeros_rep (m := m.toNat) hrz hzl hsz
  generalize m.toNat = n at *
  have hge := grownCap_ge w (len + n) c e'
  have hboth : Reps g w (os.toArray ++ Builtin.zeroCells z.cells n) (olds ++ (List.replicate n zs).flatten) := by
    refine ⟨by rw [Array.size_append, hzr.1]; simp; omega, fun k v y hv hy => ?_⟩
    by_cases hk : k < olds.length
    · rw [List.getElem?_append_left hk] at hy
      rw [Array.getElem?_append_left (by simp; omega)] at hv
      exact hos.2 k v y hv hy
    · rw [List.getElem?_append_right (by omega)] at hy
      rw [Array.getElem?_append_right (by simp; omega)] at hv
      simp only [List.size_toArray, hol] at hv
      exact hzr.2 _ v y hv hy
  obtain ⟨hE, hS', hm, hsh⟩ := sim_push (e := e') (lo := 0) (hi := 0) (us := os.toArray ++ Builtin.zeroCells z.cells n) (pad := Builtin.zeroCells z.cells (grownCap w (len + n) c e' - (len + n))) (w' := w.drew.alloc (.cells (os.toArray ++ Builtin.zeroCells z.cells n ++ Builtin.zeroCells z.cells (grownCap w (len + n) c e' - (len + n))) e')) hS hboth
    (by simp [World.alloc, World.drew, -World.alloc_eq, -World.drew_eq]) (fun _ _ => by omega) rfl rfl rfl
  have hlen : (os.toArray ++ Builtin.zeroCells z.cells n ++ Builtin.zeroCells z.cells (grownCap w (len + n) c e' - (len + n))).size = grownCap w (len + n) c e' * s2 := by
    rw [Array.size_append, Array.size_append, pad_spec, pad_spec, hzc, List.size_toArray, hol, hol0, ← Nat.add_mul, ← Nat.add_mul]
    congr 1
    omega
  have h6 : (len + n) * 1 ≤ (len + n) * by_ := Nat.mul_le_mul_left _ hbp
  refine ⟨_, _, _, hr, hE, hS', ?_⟩
  rw [hlen] at hsh
  exact .wr _ _ _ _ _ _ _ e' _ hm hsh (by omega) hge (by
    have := grownCap_le_maxLen w (len + n) c e' (by unfold maxLen; omega)
    unfold maxLen at this
    omega)
theorem goes_clear {t ty e : TypeId} {sz : Nat} {zs : List AV} {v : Value} {x : AV} {H' : AHeap} (hS : Sim g w H) (ht : tElem P t = some (e, sz)) (hz : tZero P e = some zs) (hzl : zs.length = sz) (hone : zs.all AV.one = true) (hx : Rep g w v x) (h : aclear sz zs H x = some H') :
    ∃ u w' g', (Builtin.clear_ #[t] ty #[v]).run P w = .ok u w' ∧ Ext g w g' w' ∧ Sim g' w' H' := by
  obtain ⟨hut, hse⟩ := tElem_spec ht
  obtain ⟨i, z, hi, hz1, hz2⟩ := zero_spec hz
  have hrz : Reps g w z.cells zs := by simpa using trV_reps (g := g) (w := w) _ _ hz2
  have hsi : i.size = sz := by unfold tSize at hse; rw [hi] at hse; simpa using hse
  have key : ∀ (id gen off n s : Nat), Rep g w v (.wr id gen off n s) → aclearC sz zs H id gen off n s = some H' → ∃ u w' g', (Builtin.clear_ #[t] ty #[v]).run P w = .ok u w' ∧ Ext g w g' w' ∧ Sim g' w' H' := by
    intro id gen off n s hr h
    unfold aclearC at h
    split at h <;> (try (cases h; done))
    rename_i e2 g2 cs ho
    split at h <;> (try (cases h; done))
    rename_i hcc
    obtain ⟨rfl, rfl, hle⟩ := hcc
    obtain rfl := Option.some.inj h
    obtain ⟨b, c, e', n', rfl, h1, h2, h3, h4, h5⟩ := hr.wr_inv
    have he : e' = e2 := by
      obtain ⟨b', cur, lo, hi', q1, q2, _⟩ := hS.live id _ ho
      rw [h1] at q1
      obtain rfl := Option.some.inj q1
      unfold World.shape? at h2
      rw [q2] at h2
      simp only [Option.some.injEq, Prod.mk.injEq] at h2
      exact h2.1.symm
    subst he
    cases n with
    | zero =>
      have hself : H.set id (.row e' g2 (cs.take off ++ (List.replicate 0 zs).flatten ++ cs.drop (off + 0 * s))) = H := by
        rw [List.replicate_zero, List.flatten_nil, List.append_nil, Nat.zero_mul, Nat.add_zero, List.take_append_drop]
        apply AHeap.ext'
        · rfl
        · intro k
          simp only [AHeap.set]
          by_cases hk : k = id ∧ id < H.next
          · rw [if_pos hk, hk.1, ho]
          · rw [if_neg hk]
      rw [hself]
      exact ⟨.tuple #[], w, g, by simp [Builtin.clear_, run_underlying hut], Ext.refl _ _, hS⟩
    | succ n =>
      by_cases hsz : 0 < s
      · have hzr := zeros_rep (m := n + 1) hrz hzl hsz
        have hlz : (List.replicate (n + 1) zs).flatten.length = (n + 1) * s := by simp [hzl]
        have hcap : (n + 1) * s ≤ c * s := Nat.mul_le_mul_right _ h4
        have hall : (List.replicate (n + 1) zs).flatten.all AV.one = true := by
          rw [List.all_eq_true] at hone ⊢
          intro y hy
          obtain ⟨l, hl, hy⟩ := List.mem_flatten.1 hy
          rw [List.eq_of_mem_replicate hl] at hy
          exact hone y hy
        obtain ⟨w', r1, hE, hS', hm⟩ := goes_cells (P := P) (gen' := g2) (o := off) (us := (Builtin.zeroCells z.cells (n + 1)).toList) hS ho h1 (.inl rfl) (by simpa using hzr) hall h2 (by omega) (by omega)
        rw [hlz] at hS'
        refine ⟨.tuple #[], w', _, ?_, hE, hS'⟩
        simp [Builtin.clear_, run_underlying hut, zeroValue, typeInfo, hi, hz1, r1]
      · have hs0 : s = 0 := by omega
        subst hs0
        have hznil : zs = [] := List.eq_nil_of_length_eq_zero hzl
        have hcnil : z.cells = #[] := by
          apply Array.eq_empty_of_size_eq_zero
          rw [hrz.1, hznil]
          rfl
        have hself : H.set id (.row e' g2 (cs.take off ++ (List.replicate (n + 1) zs).flatten ++ cs.drop (off + (n + 1) * 0))) = H := by
          have e0 : (List.replicate (n + 1) zs).flatten = [] := by
            rw [hznil]
            simp
          rw [e0, List.append_nil, Nat.mul_zero, Nat.add_zero, List.take_append_drop]
          apply AHeap.ext'
          · rfl
          · intro k
            simp only [AHeap.set]
            by_cases hk : k = id ∧ id < H.next
            · rw [if_pos hk, hk.1, ho]
            · rw [if_neg hk]
        rw [hself]
        exact ⟨.tuple #[], w, g, by simp [Builtin.clear_, run_underlying hut, zeroValue, typeInfo, hi, hz1, hcnil, Builtin.zeroCells, storeCells], Ext.refl _ _, hS⟩
  unfold aclear at h
  split at h <;> (try (cases h; done))
  · obtain rfl := Option.some.inj h
    cases hx
    exact ⟨.tuple #[], w, g, by simp [Builtin.clear_, run_underlying hut], Ext.refl _ _, hS⟩
  · obtain rfl := Option.some.inj h
    cases hx
    exact ⟨.tuple #[], w, g, by simp [Builtin.clear_, run_underlying hut], Ext.refl _ _, hS⟩
  · exact key _ _ _ _ _ hx h
  · exact key _ _ _ _ _ hx.wc_wr h
theorem run_slice3l {t e : TypeId} {sz : Nat} {v vl vh vm : Value} {x lo hi mx y : AV} (ht : tElem P t = some (e, sz)) (hx : Rep g w v x) (hl : Rep g w vl lo) (hh : Rep g w vh hi) (hm : Rep g w vm mx) (h : aslice3l sz x lo hi mx = some y) :
    ∃ u, (Instr.sliceAt t v (some vl) (some vh) (some vm)).run P w = .ok u w ∧ Rep g w u y := by
  obtain ⟨hu, hs⟩ := tElem_spec ht
  have key : ∀ (a : Option Addr) (n c : Nat) (l h m : Int) (k1 k2 k3 : IntKind), 0 ≤ l → l ≤ h → h ≤ m → m ≤ c → ∃ u, (Instr.sliceAt t (.slice a n c) (some (.int k1 l)) (some (.int k2 h)) (some (.int k3 m))).run P w = .ok u w := by
    intro a n c l h m k1 k2 k3 h0 h1 h2 h3
    obtain ⟨l, rfl⟩ := Int.eq_ofNat_of_zero_le h0
    obtain ⟨h, rfl⟩ := Int.eq_ofNat_of_zero_le (Int.le_trans h0 h1)
    obtain ⟨m, rfl⟩ := Int.eq_ofNat_of_zero_le (Int.le_trans (Int.le_trans h0 h1) h2)
    have e1 : l ≤ h := by omega
    have e2 : h ≤ m := by omega
    have e3 : m ≤ c := by omega
    refine ⟨_, by
      simp [Instr.sliceAt, Instr.slice, Instr.sliceBounds, run_sliceBound, run_underlying hu, run_sizeOf hs, e1, e2, e3]
      rfl⟩
  unfold aslice3l at h
  split at h <;> (try (cases h; done))
  · rename_i id gen o n s kl il kh ih km im
    split at h <;> (try (cases h; done))
    rename_i hc
    obtain ⟨rfl, c0, c1, c2, c3⟩ := hc
    obtain rfl := Option.some.inj h
    cases hl; cases hh; cases hm
    obtain ⟨b, c, e', n', rfl, h1, h2, h3, h4, h5⟩ := hx.wr_inv
    obtain ⟨u, hu⟩ := key (some ⟨b, o, none⟩) n c il ih im kl kh km c0 c1 c2 (by omega)
    exact ⟨u, hu, .top _⟩
  · rename_i id gen o n c s kl il kh ih km im
    split at h <;> (try (cases h; done))
    rename_i hc
    obtain ⟨rfl, c0, c1, c2, c3⟩ := hc
    obtain rfl := Option.some.inj h
    cases hl; cases hh; cases hm
    obtain ⟨b, e', n', rfl, h1, h2, h3, h4, h5⟩ := hx.wc_inv
    obtain ⟨u, hu⟩ := key (some ⟨b, o, none⟩) n c il ih im kl kh km c0 c1 c2 c3
    exact ⟨u, hu, .top _⟩
theorem goes_mk {t e : TypeId} {sz by_ m : Nat} {zs : List AV} {K : AV → AHeap → Prop} (hS : Sim g w H) (ht : tElem P t = some (e, sz)) (hby : tBytes P e = some by_) (hz : tZero P e = some zs) (hzl : zs.length = sz) (hsz : 0 < sz) (hbp : 0 < by_) (hb : m * by_ ≤ 281474976710656)
    (hk : K (.wr H.next 0 0 m sz) (H.push (.row e 0 (List.replicate m zs).flatten))) : Goes P g w (Instr.makeSlice t (.int .i64 m) (.int .i64 m)) K := by
  obtain ⟨hut, hse⟩ := tElem_spec ht
  obtain ⟨i, z, hi, hz1, hz2⟩ := zero_spec hz
  have hsi : i.size = sz := by unfold tSize at hse; rw [hi] at hse; simpa using hse
  have hbi : i.bytes = by_ := by unfold tBytes at hby; rw [hi] at hby; simpa using hby
  have hrz := trV_reps (g := g) (w := w) _ _ hz2
  have hzc : z.cells.size = sz := by
    have := hrz.1
    simp at this
    omega
  have h1 : m * 1 ≤ m * by_ := Nat.mul_le_mul_left _ hbp
  have hr := run_make (P := P) w t e i z hut hi hz1 .i64 .i64 (m : Int) (m : Int) (by omega) (by omega) (by
    have h2 : ((i.bytes * m : Nat) : Int) ≤ 281474976710656 := by rw [hbi, Nat.mul_comm]; omega
    rwa [Int.natCast_mul] at h2) (by omega)
  simp only [Int.toNat_natCast] at hr
  have hreps : Reps g w (madeCells z.cells (m * i.size)) (List.replicate m zs).flatten := by
    have hlz : (List.replicate m zs).flatten.length = m * sz := by simp [hzl]
    refine ⟨by rw [size_madeCells, hlz, hsi], fun k v y hv hy => ?_⟩
    have hk : k < m * sz := by rw [← hlz]; exact (List.getElem?_eq_some_iff.1 hy).1
    have hkm : k % sz < sz := Nat.mod_lt _ hsz
    have hy2 : zs[k % sz]? = some y := by
      have : ∀ (m k : Nat), k < m * sz → (List.replicate m zs).flatten[k]? = zs[k % sz]? := by
        intro m
        induction m with
        | zero => intro k hk; simp at hk
        | succ m ih =>
          intro k hk
          rw [List.replicate_succ, List.flatten_cons]
          by_cases hks : k < sz
          · rw [List.getElem?_append_left (by omega), Nat.mod_eq_of_lt hks]
          · rw [List.getElem?_append_right (by omega), hzl, ih (k - sz) (by rw [Nat.succ_mul] at hk; omega)]
            congr 1
            rw [← Nat.mod_eq_sub_mod (by omega)]
      rw [← this m k hk]
      exact hy
    have hv2 : z.cells[k % sz]? = some v := by
      simp [madeCells, hsi, hk, hzc] at hv
      rw [← hv]
      have : k % sz < z.cells.size := by omega
      simp [this]
    exact hrz.2 _ v y (by simpa using hv2) hy2
  obtain ⟨hE, hS', hm, hsh⟩ := sim_push (e := e) (pad := #[]) (lo := 0) (hi := 0) (w' := w.alloc (.cells (madeCells z.cells (m * i.size)) e)) hS hreps (by simp [World.alloc, -World.alloc_eq]) (fun _ _ => by omega) rfl rfl rfl
  rw [empty_pad, size_madeCells] at hsh
  exact ⟨_, _, _, _, _, hr, hE, hS', .wr _ _ _ _ _ _ _ e _ hm hsh (by rw [hsi]; omega) (Nat.le_refl _) (by omega), hk⟩
theorem goes_s2b {src dst e : TypeId} {s : ByteArray} {K : AV → AHeap → Prop} (hS : Sim g w H) (hs : P.underlying src = some .string) (hd : P.underlying dst = some (.slice e)) (he : P.underlying e = some (.int .u8)) (heb : bytesT.contains e = true) (hl : s.size ≤ 9223372036854775807)
    (hk : K (.wr H.next 0 0 s.size 1) (H.push (.row e 0 (s.data.toList.map fun b => .int .u8 (b.toNat : Int))))) : Goes P g w (convert src dst (.string s)) K := by
  have hr := Lib.run_convert_string_bytes (P := P) w src dst e s hs hd he
  have hreps : Reps g w (s.data.map fun b => Value.int .u8 b.toNat) (s.data.toList.map fun b => .int .u8 (b.toNat : Int)) := by
    refine ⟨by simp, fun i v y hv hy => ?_⟩
    rw [List.getElem?_map] at hy
    rw [Array.getElem?_map] at hv
    obtain ⟨b1, hb1, rfl⟩ := Option.map_eq_some_iff.1 hv
    obtain ⟨b2, hb2, rfl⟩ := Option.map_eq_some_iff.1 hy
    have : b1 = b2 := by
      have h3 : s.data.toList[i]? = s.data[i]? := by simp
      rw [h3, hb1] at hb2
      exact Option.some.inj hb2
    subst this
    exact .int _ _
  have hheap : (Lib.bytesWorld w e s).heap = w.heap.push (.cells (Lib.bytesCells w e s) e ((Lib.bytesCells w e s).size, (Lib.bytesCells w e s).size + 1)) := by
    apply Array.ext
    · rw [Lib.bytesWorld_size]; simp
    · intro i h1 h2
      have h3 : (Lib.bytesWorld w e s).heap[i]? = (w.heap.push (.cells (Lib.bytesCells w e s) e ((Lib.bytesCells w e s).size, (Lib.bytesCells w e s).size + 1)))[i]? := by
        by_cases hi : i < w.heap.size
        · rw [Lib.bytesWorld_at_old w e s i hi, Array.getElem?_push, if_neg (by omega)]
        · have : i = w.heap.size := by rw [Lib.bytesWorld_size] at h1; omega
          subst this
          rw [Lib.bytesWorld_at_new]
          simp
      rw [Array.getElem?_eq_getElem h1, Array.getElem?_eq_getElem h2] at h3
      exact Option.some.inj h3
  have hge := grownCap_ge w s.size 0 e
  obtain ⟨hE, hS', hm, hsh⟩ := sim_push (e := e) (w' := Lib.bytesWorld w e s) (us := s.data.map fun (b : UInt8) => Value.int .u8 b.toNat) (pad := Array.replicate (grownCap w s.size 0 e - s.size) (Value.int .u8 0)) hS hreps hheap (fun i hi => by
    have htl : tailN e = 0 := if_pos heb
    have : (Lib.bytesCells w e s).size = (s.data.map (fun (b : UInt8) => Value.int .u8 b.toNat) ++ Array.replicate (grownCap w s.size 0 e - s.size) (Value.int .u8 0)).size := rfl
    omega) rfl rfl rfl
  refine ⟨_, _, _, _, _, hr, hE, hS', .wr _ _ _ _ _ _ _ e _ hm hsh ?_ hge ?_, hk⟩
  · have h4 : s.data.size = s.size := rfl
    simp [h4]
    omega
  · have := grownCap_le_maxLen w s.size 0 e (by unfold maxLen; omega)
    unfold maxLen at this
    omega
end
end Go.Proofs.YtmdgjfadbhenjaaGreatDoor.AL

