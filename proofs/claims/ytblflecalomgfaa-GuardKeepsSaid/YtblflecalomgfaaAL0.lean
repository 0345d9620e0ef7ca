/- A plain picture of values and memory: what a call is handed and makes, told without addresses; and what it says of the machine's own values and worlds. -/
import Derived.Calls
import Derived.Still
import Derived.Below
import Derived.Laws.Entries
set_option linter.unusedVariables false
set_option linter.unusedSimpArgs false
namespace Go.Proofs.Ytblflecalomgfaa.AL
open Go
/-- Values without addresses. 'imm': a slice that nobody writes to any more, with its elements (each of sz cells); 'wr': a slice of a row that may be written to (row number, its state's number, where it begins, how many elements of sz cells). 'rd': the address of cells that nobody writes to any more. 'emp': a slice without elements that isn't nil. 'top': anything. -/
inductive AV where
  | top
  | bool (b : Bool)
  | int (k : IntKind) (n : Int)
  | str (s : ByteArray)
  | nilp
  | ptr (id gen off : Nat)
  | nils
  | imm (sz : Nat) (xs : List AV)
  | wr (id gen off len sz : Nat)
  | func (fn : Fn) (first caps : List AV)
  | nilf
  | map (id : Nat)
  | nilm
  | iface (t : TypeId) (v : AV)
  | nili
  | agg (cs : List AV)
  | tup (vs : List AV)
  | rd (ys : List AV)
  | emp
  deriving Inhabited
def AV.cells : AV → List AV
  | .agg cs => cs
  | v => [v]
/-- What one cell can hold. -/
def AV.one : AV → Bool
  | .agg _ | .tup _ | .top => false
  | _ => true
/-- A row (of elements of type e) that may be written to, cell by cell; or a map. -/
inductive AObj where
  | row (e : TypeId) (gen : Nat) (cells : List AV)
  | map (es : List (AV × AV))
  deriving Inhabited
def AObj.gen : AObj → Nat
  | .row _ g _ => g
  | .map _ => 0
structure AHeap where
  next : Nat
  get : Nat → Option AObj
  wf : ∀ i, next ≤ i → get i = none
theorem AHeap.ext' {H H' : AHeap} (h1 : H.next = H'.next) (h2 : ∀ i, H.get i = H'.get i) : H = H' := by
  cases H; cases H'
  simp only at h1 h2
  obtain rfl := h1
  obtain rfl := funext h2
  rfl
/-- Which block a row is, and which blocks nobody writes to. -/
structure Ghost where
  m : Nat → Nat → Option Nat
  Z : Nat → Prop
inductive Rep (g : Ghost) (w : World) : Value → AV → Prop
  | top (v : Value) : Rep g w v .top
  | bool (b : Bool) : Rep g w (.bool b) (.bool b)
  | int (k : IntKind) (n : Int) : Rep g w (.int k n) (.int k n)
  | str (s : ByteArray) : Rep g w (.string s) (.str s)
  | nilp : Rep g w (.pointer none) .nilp
  | ptr (id gen off b : Nat) : g.m id gen = some b → Rep g w (.pointer (some ⟨b, off, none⟩)) (.ptr id gen off)
  | nils : Rep g w (.slice none 0 0) .nils
  | imm (sz : Nat) (xs : List AV) (b o n c : Nat) (u : Nat → Value) : n = xs.length → n ≤ c → c ≤ 9223372036854775807 → g.Z b →
      (∀ x ∈ xs, x.cells.length = sz) →
      (∀ k, k < n * sz → w.cell? ⟨b, o + k, none⟩ = some (u k)) →
      (∀ (j : Nat) (x : AV) (i : Nat) (y : AV), xs[j]? = some x → x.cells[i]? = some y → Rep g w (u (j * sz + i)) y) →
      Rep g w (.slice (some ⟨b, o, none⟩) n c) (.imm sz xs)
  | wr (id gen off len sz b c e n : Nat) : g.m id gen = some b → w.shape? b = some (e, n) → off + c * sz ≤ n → len ≤ c → c ≤ 9223372036854775807 →
      Rep g w (.slice (some ⟨b, off, none⟩) len c) (.wr id gen off len sz)
  | func (fn : Fn) (first caps : Array Value) (fs cs : List AV) : first.size = fs.length → caps.size = cs.length →
      (∀ (i : Nat) (v : Value) (y : AV), first[i]? = some v → fs[i]? = some y → Rep g w v y) → (∀ (i : Nat) (v : Value) (y : AV), caps[i]? = some v → cs[i]? = some y → Rep g w v y) →
      Rep g w (.func fn first caps) (.func fn fs cs)
  | nilf : Rep g w .nilFunc .nilf
  | map (id b : Nat) : g.m id 0 = some b → Rep g w (.map (some b)) (.map id)
  | nilm : Rep g w (.map none) .nilm
  | iface (t : TypeId) (v : Value) (y : AV) : Rep g w v y → Rep g w (.iface t v) (.iface t y)
  | nili : Rep g w .nilIface .nili
  | agg (vs : Array Value) (ys : List AV) : vs.size = ys.length → (∀ (i : Nat) (v : Value) (y : AV), vs[i]? = some v → ys[i]? = some y → Rep g w v y) → Rep g w (.agg vs) (.agg ys)
  | tup (vs : Array Value) (ys : List AV) : vs.size = ys.length → (∀ (i : Nat) (v : Value) (y : AV), vs[i]? = some v → ys[i]? = some y → Rep g w v y) → Rep g w (.tuple vs) (.tup ys)
  | rd (b o : Nat) (ys : List AV) (u : Nat → Value) : g.Z b → (∀ k, k < ys.length → w.cell? ⟨b, o + k, none⟩ = some (u k)) →
      (∀ (i : Nat) (y : AV), ys[i]? = some y → Rep g w (u i) y) → Rep g w (.pointer (some ⟨b, o, none⟩)) (.rd ys)
  | emp (a : Addr) (c : Nat) : Rep g w (.slice (some a) 0 c) .emp
/-- A block of which something is told. -/
def Known (g : Ghost) (b : Nat) : Prop := g.Z b ∨ ∃ id gen, g.m id gen = some b
/-- From (g, w) to (g', w') all that was told stays told. -/
structure Ext (g : Ghost) (w : World) (g' : Ghost) (w' : World) : Prop where
  m : ∀ id gen b, g.m id gen = some b → g'.m id gen = some b
  z : ∀ b, g.Z b → g'.Z b
  same : ∀ b, g.Z b → w'.heap[b]? = w.heap[b]?
  shape : ∀ b s, w.shape? b = some s → w'.shape? b = some s
  size : w.heap.size ≤ w'.heap.size
  os : w'.os = w.os
  tape : w'.tape = w.tape
  output : w'.output = w.output
  known : ∀ b, b < w.heap.size → Known g' b → Known g b
  other : ∀ b, b < w.heap.size → ¬ Known g b → w'.heap[b]? = w.heap[b]?
theorem Ext.refl (g : Ghost) (w : World) : Ext g w g w := ⟨fun _ _ _ h => h, fun _ h => h, fun _ _ => rfl, fun _ _ h => h, Nat.le_refl _, rfl, rfl, rfl, fun _ _ h => h, fun _ _ _ => rfl⟩
theorem Ext.trans {g g1 g2 : Ghost} {w w1 w2 : World} (h : Ext g w g1 w1) (k : Ext g1 w1 g2 w2) : Ext g w g2 w2 :=
  ⟨fun a b c hh => k.m _ _ _ (h.m _ _ _ hh), fun b hh => k.z _ (h.z _ hh), fun b hh => (k.same _ (h.z _ hh)).trans (h.same _ hh), fun b s hh => k.shape _ _ (h.shape _ _ hh), Nat.le_trans h.size k.size, k.os.trans h.os, k.tape.trans h.tape, k.output.trans h.output, fun b hb hk => h.known b hb (k.known b (Nat.lt_of_lt_of_le hb h.size) hk), fun b hb hk => (k.other b (Nat.lt_of_lt_of_le hb h.size) (fun q => hk (h.known b hb q))).trans (h.other b hb hk)⟩
theorem cell_block {w w' : World} {a : Addr} (h : w'.heap[a.block]? = w.heap[a.block]?) : w'.cell? a = w.cell? a := by
  unfold World.cell?
  rw [h]
/-- What keeps told values told. -/
structure Grow (g : Ghost) (w : World) (g' : Ghost) (w' : World) : Prop where
  m : ∀ id gen b, g.m id gen = some b → g'.m id gen = some b
  z : ∀ b, g.Z b → g'.Z b
  same : ∀ b, g.Z b → w'.heap[b]? = w.heap[b]?
  shape : ∀ b s, w.shape? b = some s → w'.shape? b = some s
theorem Ext.grow {g g' : Ghost} {w w' : World} (h : Ext g w g' w') : Grow g w g' w' := ⟨h.m, h.z, h.same, h.shape⟩
theorem Rep.grow {g g' : Ghost} {w w' : World} (h : Grow g w g' w') {v : Value} {y : AV} (hr : Rep g w v y) : Rep g' w' v y := by
  induction hr with
  | top v => exact .top v
  | bool b => exact .bool b
  | int k n => exact .int k n
  | str s => exact .str s
  | nilp => exact .nilp
  | ptr id gen off b hb => exact .ptr id gen off b (h.m _ _ _ hb)
  | nils => exact .nils
  | imm sz xs b o n c u h1 h2 h3 h4 h5 h6 h7 ih =>
    exact .imm sz xs b o n c u h1 h2 h3 (h.z _ h4) h5 (fun k hk => (cell_block (a := ⟨b, o + k, none⟩) (h.same b h4)).trans (h6 k hk)) ih
  | wr id gen off len sz b c e n h1 h2 h3 h4 h5 => exact .wr id gen off len sz b c e n (h.m _ _ _ h1) (h.shape _ _ h2) h3 h4 h5
  | func fn first caps fs cs h1 h2 h3 h4 ih1 ih2 => exact .func fn first caps fs cs h1 h2 ih1 ih2
  | nilf => exact .nilf
  | map id b hb => exact .map id b (h.m _ _ _ hb)
  | nilm => exact .nilm
  | iface t v y h1 ih => exact .iface t v y ih
  | nili => exact .nili
  | agg vs ys h1 h2 ih => exact .agg vs ys h1 ih
  | tup vs ys h1 h2 ih => exact .tup vs ys h1 ih
  | emp a c => exact .emp a c
  | rd b o ys u h1 h2 h3 ih => exact .rd b o ys u (h.z _ h1) (fun k hk => (cell_block (a := ⟨b, o + k, none⟩) (h.same b h1)).trans (h2 k hk)) ih
theorem Rep.ext {g g' : Ghost} {w w' : World} (h : Ext g w g' w') {v : Value} {y : AV} (hr : Rep g w v y) : Rep g' w' v y := hr.grow h.grow
/-- Values one by one. -/
def Reps (g : Ghost) (w : World) (vs : Array Value) (ys : List AV) : Prop := vs.size = ys.length ∧ ∀ (i : Nat) (v : Value) (y : AV), vs[i]? = some v → ys[i]? = some y → Rep g w v y
theorem Reps.ext {g g' : Ghost} {w w' : World} (h : Ext g w g' w') {vs : Array Value} {ys : List AV} (hr : Reps g w vs ys) : Reps g' w' vs ys :=
  ⟨hr.1, fun i v y h1 h2 => (hr.2 i v y h1 h2).ext h⟩
theorem Rep.cells {g : Ghost} {w : World} {v : Value} {y : AV} (h : Rep g w v y) (ht : y ≠ .top) : Reps g w v.cells y.cells := by
  have one : ∀ (v : Value) (y : AV), Rep g w v y → Reps g w #[v] [y] := fun v y h => ⟨rfl, fun i a b h1 h2 => by
    cases i with
    | zero => simp at h1 h2; subst h1; subst h2; exact h
    | succ i => simp at h1⟩
  cases h with
  | top => exact absurd rfl ht
  | agg vs ys h1 h2 => exact ⟨h1, h2⟩
  | _ => exact one _ _ (by constructor <;> assumption)
/-! ### what is told of each -/
theorem Rep.imm_inv {g : Ghost} {w : World} {v : Value} {sz : Nat} {xs : List AV} (h : Rep g w v (.imm sz xs)) : ∃ (b o c : Nat) (u : Nat → Value), v = .slice (some ⟨b, o, none⟩) xs.length c ∧ xs.length ≤ c ∧ c ≤ 9223372036854775807 ∧ g.Z b ∧
    (∀ x ∈ xs, x.cells.length = sz) ∧ (∀ k, k < xs.length * sz → w.cell? ⟨b, o + k, none⟩ = some (u k)) ∧
    (∀ (j : Nat) (x : AV) (i : Nat) (y : AV), xs[j]? = some x → x.cells[i]? = some y → Rep g w (u (j * sz + i)) y) := by
  generalize hq : AV.imm sz xs = q at h
  cases h <;> try (cases hq; done)
  case imm sz' xs' b o n c u h1 h2 h3 h4 h5 h6 h7 =>
    cases hq
    subst h1
    exact ⟨b, o, c, u, rfl, h2, h3, h4, h5, h6, h7⟩
theorem Rep.wr_inv {g : Ghost} {w : World} {v : Value} {id gen off len sz : Nat} (h : Rep g w v (.wr id gen off len sz)) : ∃ b c e n, v = .slice (some ⟨b, off, none⟩) len c ∧ g.m id gen = some b ∧ w.shape? b = some (e, n) ∧ off + c * sz ≤ n ∧ len ≤ c ∧ c ≤ 9223372036854775807 := by
  generalize hq : AV.wr id gen off len sz = q at h
  cases h <;> try (cases hq; done)
  case wr id' gen' off' len' sz' b c e n h1 h2 h3 h4 h5 =>
    cases hq
    exact ⟨b, c, e, n, rfl, h1, h2, h3, h4, h5⟩
theorem Rep.ptr_inv {g : Ghost} {w : World} {v : Value} {id gen off : Nat} (h : Rep g w v (.ptr id gen off)) : ∃ b, v = .pointer (some ⟨b, off, none⟩) ∧ g.m id gen = some b := by
  cases h
  exact ⟨_, rfl, by assumption⟩
theorem Rep.rd_inv {g : Ghost} {w : World} {v : Value} {ys : List AV} (h : Rep g w v (.rd ys)) : ∃ (b o : Nat) (u : Nat → Value), v = .pointer (some ⟨b, o, none⟩) ∧ g.Z b ∧ (∀ k, k < ys.length → w.cell? ⟨b, o + k, none⟩ = some (u k)) ∧ (∀ (i : Nat) (y : AV), ys[i]? = some y → Rep g w (u i) y) := by
  generalize hq : AV.rd ys = q at h
  cases h <;> try (cases hq; done)
  case rd b o ys' u h1 h2 h3 =>
    cases hq
    exact ⟨b, o, u, rfl, h1, h2, h3⟩
theorem Rep.agg_inv {g : Ghost} {w : World} {v : Value} {ys : List AV} (h : Rep g w v (.agg ys)) : ∃ vs, v = .agg vs ∧ Reps g w vs ys := by
  generalize hq : AV.agg ys = q at h
  cases h <;> try (cases hq; done)
  case agg vs ys' h1 h2 =>
    cases hq
    exact ⟨vs, rfl, h1, h2⟩
theorem Rep.tup_inv {g : Ghost} {w : World} {v : Value} {ys : List AV} (h : Rep g w v (.tup ys)) : ∃ vs, v = .tuple vs ∧ Reps g w vs ys := by
  generalize hq : AV.tup ys = q at h
  cases h <;> try (cases hq; done)
  case tup vs ys' h1 h2 =>
    cases hq
    exact ⟨vs, rfl, h1, h2⟩
theorem Rep.func_inv {g : Ghost} {w : World} {v : Value} {fn : Fn} {fs cs : List AV} (h : Rep g w v (.func fn fs cs)) : ∃ first caps, v = .func fn first caps ∧ Reps g w first fs ∧ Reps g w caps cs := by
  generalize hq : AV.func fn fs cs = q at h
  cases h <;> try (cases hq; done)
  case func fn' first caps fs' cs' h1 h2 h3 h4 =>
    cases hq
    exact ⟨first, caps, rfl, ⟨h1, h3⟩, h2, h4⟩
/-- What the heap's picture says of the machine's blocks. -/
def RepObj (g : Ghost) (w : World) (id : Nat) : AObj → Prop
  | .row e gen cs => ∃ b cur lo hi, g.m id gen = some b ∧ w.heap[b]? = some (.cells cur e (lo, hi)) ∧ (∀ i, i < cur.size → ¬ (lo ≤ i ∧ i < hi)) ∧ cs.length ≤ cur.size ∧
      ∀ (i : Nat) (y : AV), cs[i]? = some y → ∃ u, cur[i]? = some u ∧ Rep g w u y
  | .map es => ∃ b ms clock, g.m id 0 = some b ∧ w.heap[b]? = some (.map ms clock) ∧ ms.size = es.length ∧
      ∀ (i : Nat) (e : MapEntry) (x : AV × AV), ms[i]? = some e → es[i]? = some x → Rep g w e.key x.1 ∧ Rep g w e.val x.2
structure Sim (g : Ghost) (w : World) (H : AHeap) : Prop where
  zlt : ∀ b, g.Z b → b < w.heap.size
  mlt : ∀ id gen b, g.m id gen = some b → id < H.next ∧ b < w.heap.size
  live : ∀ id o, H.get id = some o → RepObj g w id o
  inj : ∀ id id' o o' b, H.get id = some o → H.get id' = some o' → g.m id o.gen = some b → g.m id' o'.gen = some b → id = id'
  nz : ∀ id o b, H.get id = some o → g.m id o.gen = some b → ¬ g.Z b
  gen : ∀ id o gen b, H.get id = some o → g.m id gen = some b → gen ≤ o.gen
theorem AHeap.lt {H : AHeap} {id : Nat} {o : AObj} (h : H.get id = some o) : id < H.next := by
  rcases Nat.lt_or_ge id H.next with h1 | h1
  · exact h1
  · rw [H.wf id h1] at h; cases h
/-! ### the heap's picture, changed -/
def AHeap.push (H : AHeap) (o : AObj) : AHeap where
  next := H.next + 1
  get i := if i = H.next then some o else H.get i
  wf i hi := by rw [if_neg (by omega)]; exact H.wf i (by omega)
def AHeap.set (H : AHeap) (id : Nat) (o : AObj) : AHeap where
  next := H.next
  get i := if i = id ∧ id < H.next then some o else H.get i
  wf i hi := by rw [if_neg (by omega)]; exact H.wf i hi
def AHeap.kill (H : AHeap) (id : Nat) : AHeap where
  next := H.next
  get i := if i = id then none else H.get i
  wf i hi := by split; rfl; exact H.wf i hi
def AHeap.trunc (H : AHeap) (n : Nat) : AHeap where
  next := min n H.next
  get i := if i < n then H.get i else none
  wf i hi := by
    split
    · exact H.wf i (by omega)
    · rfl
section
variable (H : AHeap) (o o' : AObj) (i j n : Nat)
theorem push_next : (H.push o).next = H.next + 1 := rfl
theorem set_next : (H.set i o).next = H.next := rfl
theorem kill_next : (H.kill i).next = H.next := rfl
theorem push_get : (H.push o).get i = if i = H.next then some o else H.get i := rfl
theorem push_get_new : (H.push o).get H.next = some o := by simp [push_get]
theorem push_get_old (h : i < H.next) : (H.push o).get i = H.get i := by rw [push_get, if_neg (by omega)]
theorem set_get_same (h : i < H.next) : (H.set i o).get i = some o := by simp [AHeap.set, h]
theorem set_get_ne (h : j ≠ i) : (H.set i o).get j = H.get j := by simp [AHeap.set, h]
theorem kill_get_ne (h : j ≠ i) : (H.kill i).get j = H.get j := by simp [AHeap.kill, h]
theorem set_push_new : (H.push o).set H.next o' = H.push o' := by
  apply AHeap.ext'
  · rfl
  · intro k
    simp only [AHeap.set, AHeap.push]
    by_cases hk : k = H.next
    · simp [hk]
    · simp [hk]
theorem set_push_old (h : i < H.next) : (H.push o).set i o' = (H.set i o').push o := by
  apply AHeap.ext'
  · rfl
  · intro k
    simp only [AHeap.set, AHeap.push]
    by_cases hk : k = H.next
    · subst hk; simp; omega
    · by_cases hi : k = i
      · subst hi; simp [hk, h, show k < H.next + 1 by omega]
      · simp [hk, hi]
theorem set_set : (H.set i o).set i o' = H.set i o' := by
  apply AHeap.ext'
  · rfl
  · intro k
    simp only [AHeap.set]
    by_cases hk : k = i ∧ i < H.next
    · simp [hk]
    · simp [hk]
theorem kill_push_new : (H.push o).kill H.next = ({ H with next := H.next + 1, wf := fun i hi => H.wf i (by omega) } : AHeap) := by
  apply AHeap.ext'
  · rfl
  · intro k
    simp only [AHeap.kill, AHeap.push]
    by_cases hk : k = H.next
    · simp [hk, H.wf H.next (Nat.le_refl _)]
    · simp [hk]
theorem trunc_push (h : n ≤ H.next) : (H.push o).trunc n = H.trunc n := by
  apply AHeap.ext'
  · simp only [AHeap.trunc, AHeap.push]; omega
  · intro k
    simp only [AHeap.trunc, AHeap.push]
    by_cases hk : k < n
    · simp [hk, show k ≠ H.next by omega]
    · simp [hk]
theorem trunc_self : H.trunc H.next = H := by
  apply AHeap.ext'
  · simp [AHeap.trunc]
  · intro k
    simp only [AHeap.trunc]
    split
    · rfl
    · exact (H.wf k (by omega)).symm
theorem trunc_kill (h : n ≤ i) : (H.kill i).trunc n = H.trunc n := by
  apply AHeap.ext'
  · rfl
  · intro k
    simp only [AHeap.trunc, AHeap.kill]
    by_cases hk : k < n
    · simp [hk, show k ≠ i by omega]
    · simp [hk]
theorem trunc_set_new (h : n ≤ i) : (H.set i o).trunc n = H.trunc n := by
  apply AHeap.ext'
  · rfl
  · intro k
    simp only [AHeap.trunc, AHeap.set]
    by_cases hk : k < n
    · simp [hk, show k ≠ i by omega]
    · simp [hk]
theorem trunc_set_old (h : i < n) (h2 : i < H.next) : (H.set i o).trunc n = (H.trunc n).set i o := by
  apply AHeap.ext'
  · rfl
  · intro k
    simp only [AHeap.trunc, AHeap.set]
    by_cases hk : k = i
    · subst hk; simp [h, h2]; omega
    · simp [hk]
theorem trunc_trunc (h : n ≤ j) : (H.trunc j).trunc n = H.trunc n := by
  apply AHeap.ext'
  · simp only [AHeap.trunc]; omega
  · intro k
    simp only [AHeap.trunc]
    by_cases hk : k < n
    · simp [hk, show k < j by omega]
    · simp [hk]
end
end Go.Proofs.Ytblflecalomgfaa.AL
