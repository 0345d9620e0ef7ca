/- Operations that make memory, write to it, or call: what they do to the plain picture, and that the machine's do so. -/
import Derived.Test.YtblflecalomgfaaAL8
import Derived.Lib.ConvBytes
import Derived.Laws.MakeOwn
set_option linter.unusedVariables false
set_option linter.unusedSimpArgs false
namespace Go.Proofs.Ytblflecalomgfaa.AL
open Go
inductive SOp where
  | alloc (e : TypeId) (zero : List AV)
  | box (e : TypeId) (x : AX)
  | store (n : Nat) (x v : AX)
  | lit (e : TypeId) (sz : Nat) (parts : List AX)
  | litw (e : TypeId) (sz : Nat) (parts : List AX)
  | app (e : TypeId) (sz bytes : Nat) (s x : AX)
  | copy (sz : Nat) (d s : AX)
  | mk (e : TypeId) (sz bytes : Nat) (zero : List AV) (n : AX)
  | s2b (e : TypeId) (x : AX)
  | call (f : Nat) (args : List AX)
  | callv (x : AX) (args : List AX)
  | stop
  | put (e : TypeId) (n : Nat) (x : AX)
  | lookup (str : Bool) (zero : AV) (ok : Bool) (m k : AX)
  | mkmap
  | mapup (str : Bool) (m k v : AX)
  | mlen (m : AX)
  | bests (mx : Bool) (x : AX) (xs : List AX)
  | slice3 (sz : Nat) (x hi mx : AX)
def astore (H : AHeap) (n : Nat) (v : AV) : AV → Option AHeap
  | .ptr id gen off => match H.get id with
    | some (.row e g cs) => if g = gen ∧ v.flat = true ∧ v.cells.all AV.one = true ∧ v.cells.length = n ∧ off + n ≤ cs.length then some (H.set id (.row e g (cs.take off ++ v.cells ++ cs.drop (off + n)))) else none
    | _ => none
  | _ => none
/-- How many elements a slice (or a string, in bytes) has, and their cells. -/
def acells (H : AHeap) (sz : Nat) : AV → Option (Nat × List AV)
  | .nils | .emp => some (0, [])
  | .imm s xs => if s = sz then some (xs.length, xs.flatMap AV.cells) else none
  | .wr id gen off n s => if s = sz then (match H.get id with
    | some (.row _ g cs) => if g = gen ∧ off + n * s ≤ cs.length then some (n, (cs.drop off).take (n * s)) else none
    | _ => none) else none
  | .str s => if sz = 1 then some (s.size, s.data.toList.map fun b => .int .u8 (b.toNat : Int)) else none
  | _ => none
def aapp (e : TypeId) (sz bytes : Nat) (H : AHeap) (s x : AV) : Option (AV × AHeap) :=
  match acells H sz x with
  | some (n, ys) => if ys.all AV.one = true then (match s with
    | .nils => if n = 0 then some (.nils, H) else if n * bytes ≤ 140737488355328 then some (.wr H.next 0 0 n sz, H.push (.row e 0 ys)) else none
    | .wr id gen 0 len s => match H.get id with
      | some (.row e' g cs) => if s = sz ∧ e' = e ∧ g = gen ∧ cs.length = len * sz ∧ (len + n) * bytes ≤ 140737488355328 then some (.wr id (gen + 1) 0 (len + n) sz, H.set id (.row e (gen + 1) (cs ++ ys))) else none
      | _ => none
    | _ => none) else none
  | none => none
def acopy (sz : Nat) (H : AHeap) (d x : AV) : Option (AV × AHeap) :=
  match acells H sz x with
  | some (n, ys) => if ys.all AV.one = true then (match d with
    | .nils | .emp => some (.int .i64 0, H)
    | .wr id gen off len s => match H.get id with
      | some (.row e g cs) => if s = sz ∧ g = gen ∧ off + len * sz ≤ cs.length then some (.int .i64 (min n len : Nat), H.set id (.row e g (cs.take off ++ ys.take (min n len * sz) ++ cs.drop (off + min n len * sz)))) else none
      | _ => none
    | _ => none) else none
  | none => none
/-! maps -/
def akey (str : Bool) : AV → AV → Option Bool
  | .str a, .str b => if str then some (decide (a.data.toList = b.data.toList)) else none
  | .int k a, .int k' b => if !str ∧ k = k' then some (decide (a = b)) else none
  | _, _ => none
def amget (str : Bool) (k : AV) : List (AV × AV) → Option (Option AV)
  | [] => some none
  | e :: es => match akey str k e.1 with
    | some true => some (some e.2)
    | some false => amget str k es
    | none => none
def amset (str : Bool) (k v : AV) : List (AV × AV) → Option (List (AV × AV))
  | [] => some [(k, v)]
  | e :: es => match akey str k e.1 with
    | some true => some ((k, v) :: es)
    | some false => (amset str k v es).map (e :: ·)
    | none => none
def afound (ok b : Bool) (v : AV) : AV := if ok then .tup [v, .bool b] else v
def alookup (H : AHeap) (str : Bool) (zero : AV) (ok : Bool) (k : AV) : AV → Option AV
  | .nilm => some (afound ok false zero)
  | .map id => match H.get id with
    | some (.map es) => match amget str k es with
      | some (some v) => some (afound ok true v)
      | some none => some (afound ok false zero)
      | none => none
    | _ => none
  | _ => none
def amapup (H : AHeap) (str : Bool) (k v : AV) : AV → Option AHeap
  | .map id => match H.get id with
    | some (.map es) => (amset str k v es).map fun es => H.set id (.map es)
    | _ => none
  | _ => none
def amlen (H : AHeap) : AV → Option AV
  | .nilm => some (.int .i64 0)
  | .map id => match H.get id with
    | some (.map es) => some (.int .i64 es.length)
    | _ => none
  | _ => none
def abests (mx : Bool) (x : AV) : List AV → Option AV
  | [] => some x
  | y :: ys => (abest mx x y).bind fun z => abests mx z ys
/-- x[:n:n], of a slice of n elements. -/
def aslice3 (sz : Nat) (x hi mx : AV) : Option AV :=
  match x, hi, mx with
  | .wr id gen o n s, .int _ h, .int _ m => if s = sz ∧ h = n ∧ m = n then some (.wr id gen o n s) else none
  | _, _, _ => none
def as_ (C : Nat → List AV → AHeap → (AV → AHeap → Prop) → Prop) (H : AHeap) (ρ : AX → AV) : SOp → (AV → AHeap → Prop) → Prop
  | .alloc e z, K => K (.ptr H.next 0 0) (H.push (.row e 0 z))
  | .box e x, K => (ρ x).flat = true ∧ K (.ptr H.next 0 0) (H.push (.row e 0 (ρ x).cells))
  | .store n x v, K => ∃ H', astore H n (ρ v) (ρ x) = some H' ∧ K .top H'
  | .lit _ sz ps, K => (∀ p ∈ ps, (ρ p).flat = true ∧ (ρ p).cells.length = sz) ∧ K (.imm sz (ps.map ρ)) H
  | .litw e sz ps, K => (∀ p ∈ ps, (ρ p).flat = true ∧ (ρ p).cells.length = sz) ∧ K (.wr H.next 0 0 ps.length sz) (H.push (.row e 0 ((ps.map ρ).flatMap AV.cells)))
  | .app e sz b s x, K => ∃ y H', aapp e sz b H (ρ s) (ρ x) = some (y, H') ∧ K y H'
  | .copy sz d x, K => ∃ y H', acopy sz H (ρ d) (ρ x) = some (y, H') ∧ K y H'
  | .mk e sz b z n, K => ∃ m : Nat, ρ n = .int .i64 m ∧ m * b ≤ 281474976710656 ∧ K (.wr H.next 0 0 m sz) (H.push (.row e 0 (List.replicate m z).flatten))
  | .s2b e x, K => ∃ s, ρ x = .str s ∧ s.size ≤ 9223372036854775807 ∧ K (.wr H.next 0 0 s.size 1) (H.push (.row e 0 (s.data.toList.map fun b => .int .u8 (b.toNat : Int))))
  | .call f args, K => C f (args.map ρ) H K
  | .callv x args, K => match ρ x with
    | .func (.func f) fs cs => C f (fs ++ args.map ρ ++ cs) H K
    | _ => False
  | .stop, _ => False
  | .put e n x, K => ((ρ x).flat = true ∧ (ρ x).cells.all AV.one = true ∧ (ρ x).cells.length = n) ∧ K (.ptr H.next 0 0) (H.push (.row e 0 (ρ x).cells))
  | .lookup str z ok m k, K => ∃ y, alookup H str z ok (ρ k) (ρ m) = some y ∧ K y H
  | .mkmap, K => K (.map H.next) (H.push (.map []))
  | .mapup str m k v, K => ∃ H', amapup H str (ρ k) (ρ v) (ρ m) = some H' ∧ K .top H'
  | .mlen m, K => ∃ y, amlen H (ρ m) = some y ∧ K y H
  | .bests mx x xs, K => ∃ y, abests mx (ρ x) (xs.map ρ) = some y ∧ K y H
  | .slice3 sz x hi mx, K => ∃ y, aslice3 sz (ρ x) (ρ hi) (ρ mx) = some y ∧ K y H
def tZero (P : Program) (t : TypeId) : Option (List AV) := match P.info? t with
  | some i => match i.zero with
    | some z => z.cells.toList.mapM trV
    | none => none
  | none => none
def litOk : Nat → List (Nat × Operand) → Bool
  | _, [] => true
  | k, (i, _) :: l => i == k && litOk (k + 1) l
def tBytes (P : Program) (t : TypeId) : Option Nat := (P.info? t).map (·.bytes)
def zOk (P : Program) (e : TypeId) (sz : Nat) : Bool := match P.info? e with
  | some i => match i.zero with
    | some z => z.cells.size == sz
    | none => false
  | none => false
def sameOp : Operand → Operand → Bool
  | .tmp a, .tmp b => a == b
  | .const (.int .i64 a), .const (.int .i64 b) => a == b
  | _, _ => false
def noInt (P : Program) (t : TypeId) : Bool := match P.underlying t with
  | some .string | some (.slice _) => true
  | _ => false
def tKey (P : Program) (t : TypeId) : Option Bool := match P.underlying t with
  | some .string => some true
  | some (.int _) => some false
  | _ => none
def tZeroV (P : Program) (t : TypeId) : Option AV := match P.info? t with
  | some i => match i.zero with
    | some (.agg cs) => (cs.toList.mapM trV).map .agg
    | some z => trV z
    | none => none
  | none => none
def tMap (P : Program) (t : TypeId) : Option (Bool × TypeId) := match P.underlying t with
  | some (.map k e) => (tKey P k).map fun s => (s, e)
  | _ => none
def trS (P : Program) : Op → Option SOp
  | .alloc e => (tZero P e).map (.alloc e)
  | .box e x => (trX x).map (.box e)
  | .store t x v => match tSize P t, trX x, trX v with
    | some n, some x, some v => some (.store n x v)
    | _, _, _ => none
  | .buildSlice t n parts => match tElem P t, trXs (parts.toList.map (·.2)) with
    | some (e, sz), some ps => if parts.size = n ∧ litOk 0 parts.toList = true ∧ n * sz ≤ 16777216 ∧ 0 < sz ∧ zOk P e sz = true then some (.lit e sz ps) else none
    | _, _ => none
  | .makeSlice t n c => match tElem P t, trX n, trX c with
    | some (e, sz), some n', some _ => match tBytes P e, tZero P e with
      | some b, some z => if sameOp n c = true ∧ z.length = sz ∧ 0 < sz ∧ 0 < b then some (.mk e sz b z n') else none
      | _, _ => none
    | _, _, _ => none
  | .convert src dst x => match P.underlying src, P.underlying dst with
    | some .string, some (.slice e) => if isU8 P e = true then (trX x).map (.s2b e) else none
    | _, _ => none
  | .call { callee := .builtin .append, args := args, argTypes := ts } => match args.toList, ts.toList with
    | [s, x], [t, u] => match tElem P t, tr2 s x (.bin .add) with
      | some (e, sz), some (.bin _ s' x') => match tBytes P e, tZero P e with
        | some b, some z => if noInt P u = true ∧ z.length = sz ∧ 0 < sz ∧ 0 < b then some (.app e sz b s' x') else none
        | _, _ => none
      | _, _ => none
    | _, _ => none
  | .call { callee := .builtin .copy, args := args, argTypes := ts } => match args.toList, ts.toList with
    | [s, x], [t, _] => match tElem P t, tr2 s x (.bin .add) with
      | some (_, sz), some (.bin _ s' x') => some (.copy sz s' x')
      | _, _ => none
    | _, _ => none
  | .call { callee := .value f, args := args, argTypes := _ } => match trXs args.toList with
    | some as => (match f with
      | .func f => some (.call f as)
      | f => (trX f).map fun x => .callv x as)
    | none => none
  | .lookup t m k ok => match tMap P t with
    | some (str, e) => match tZeroV P e, tr2 m k (.bin .add) with
      | some z, some (.bin _ m' k') => some (.lookup str z ok m' k')
      | _, _ => none
    | none => none
  | .makeMap _ none => some .mkmap
  | .slice t x none (some hi) (some mx) => match tElem P t, trXs [x, hi, mx] with
    | some (_, sz), some [x', hi', mx'] => some (.slice3 sz x' hi' mx')
    | _, _ => none
  | .mapUpdate t m k v => match tMap P t, trXs [m, k, v] with
    | some (str, _), some [m', k', v'] => some (.mapup str m' k' v')
    | _, _ => none
  | _ => none
section
variable {P : Program} {g : Ghost} {w : World} {H : AHeap}
theorem one_one {v : Value} {y : AV} (h : Rep g w v y) (h1 : y.one = true) : v.oneCell' = true := by
  cases h <;> simp_all [AV.one, Value.oneCell']
theorem zero_spec {e : TypeId} {zs : List AV} (h : tZero P e = some zs) : ∃ i z, P.info? e = some i ∧ i.zero = some z ∧ z.cells.toList.mapM trV = some zs := by
  unfold tZero at h
  split at h <;> (try (cases h; done))
  split at h <;> (try (cases h; done))
  exact ⟨_, _, by assumption, by assumption, h⟩
theorem flat_inv : ∀ (xs : List AV) (sz k : Nat) (y : AV), (∀ x ∈ xs, x.cells.length = sz) → (xs.flatMap AV.cells)[k]? = some y → ∃ j i x, k = j * sz + i ∧ xs[j]? = some x ∧ x.cells[i]? = some y
  | [], _, _, _, _, h => by simp at h
  | z :: xs, sz, k, y, hl, h => by
    have hz := hl z (by simp)
    simp only [List.flatMap_cons] at h
    by_cases hk : k < sz
    · rw [List.getElem?_append_left (by omega)] at h
      exact ⟨0, k, z, by simp, rfl, h⟩
    · rw [List.getElem?_append_right (by omega), hz] at h
      obtain ⟨j, i, x, h1, h2, h3⟩ := flat_inv xs sz (k - sz) y (fun a ha => hl a (by simp [ha])) h
      exact ⟨j + 1, i, x, by rw [Nat.succ_mul]; omega, by simpa using h2, h3⟩
theorem run_first {sz n : Nat} {ys : List AV} {v : Value} {x : AV} (hS : Sim g w H) (hx : Rep g w v x) (h : acells H sz x = some (n, ys)) :
    (Builtin.lenOf v).run P w = .ok n w ∧ ys.length = n * sz ∧ ∀ m, m ≤ n → ∃ us : List Value, Reps g w us.toArray (ys.take (m * sz)) ∧ ∀ w1 : World, w1.heap = w.heap → (Builtin.firstCells sz m v).run P w1 = .ok us.toArray w1 := by
  have cellsAt : ∀ (b o c : Nat), ys.length = n * sz → CellsAt g w b o ys → ∀ m, m ≤ n → ∃ us : List Value, Reps g w us.toArray (ys.take (m * sz)) ∧ ∀ w1 : World, w1.heap = w.heap → (Builtin.firstCells sz m (.slice (some ⟨b, o, none⟩) n c)).run P w1 = .ok us.toArray w1 := by
    intro b o c hl hc m hm
    have hm2 : m * sz ≤ n * sz := Nat.mul_le_mul_right _ hm
    refine ⟨(List.range (m * sz)).map fun k => (w.cell? ⟨b, o + k, none⟩).getD undef, ⟨by simp; omega, fun i u y hu hy => ?_⟩, fun w1 hw1 => ?_⟩
    · have hi : i < m * sz := by
        have := (List.getElem?_eq_some_iff.1 hy).1
        simp at this
        omega
      rw [List.getElem?_take, if_pos hi] at hy
      obtain ⟨u', hu', hrep⟩ := hc i y hy
      simp [hi] at hu
      rw [hu'] at hu
      simp at hu
      subst hu
      exact hrep
    · simp only [Builtin.firstCells]
      refine run_loadCells w1 _ _ _ (fun j hj => ?_)
      obtain ⟨u', hu', _⟩ := hc j (ys[j]'(by omega)) (List.getElem?_eq_getElem _)
      rw [Addr.add_lit]
      have : w1.cell? ⟨b, o + j, none⟩ = w.cell? ⟨b, o + j, none⟩ := by simp [World.cell?, hw1]
      rw [this, hu']
      rfl
  unfold acells at h
  split at h <;> (try (cases h; done))
  · simp only [Option.some.injEq, Prod.mk.injEq] at h
    obtain ⟨rfl, rfl⟩ := h
    cases hx
    refine ⟨by simp [Builtin.lenOf], by simp, fun m hm => ⟨[], ⟨by simp, fun i u y h => by simp at h⟩, fun w1 _ => by simp [Builtin.firstCells]⟩⟩
  · simp only [Option.some.injEq, Prod.mk.injEq] at h
    obtain ⟨rfl, rfl⟩ := h
    cases hx
    refine ⟨by simp [Builtin.lenOf], by simp, fun m hm => ⟨[], ⟨by simp, fun i u y h => by simp at h⟩, fun w1 _ => ?_⟩⟩
    obtain rfl : m = 0 := by omega
    simp [Builtin.firstCells, loadCells, loadCellsFrom]
  · split at h <;> (try (cases h; done))
    rename_i hs
    subst hs
    simp only [Option.some.injEq, Prod.mk.injEq] at h
    obtain ⟨rfl, rfl⟩ := h
    obtain ⟨b, o, c, f, rfl, h2, h3, h4, h5, h6, h7⟩ := hx.imm_inv
    have hl := flat_length _ _ h5
    refine ⟨by simp [Builtin.lenOf], hl, cellsAt b o c hl ?_⟩
    intro k y hy
    have hk : k < (List.flatMap AV.cells _).length := (List.getElem?_eq_some_iff.1 hy).1
    rw [hl] at hk
    obtain ⟨j, i, z, rfl, hj, hi⟩ := flat_inv _ _ _ _ h5 hy
    exact ⟨_, h6 _ hk, h7 _ _ _ _ hj hi⟩
  · split at h <;> (try (cases h; done))
    rename_i id gen off k s hs
    subst hs
    split at h <;> (try (cases h; done))
    rename_i e2 g2 cs hg
    split at h <;> (try (cases h; done))
    rename_i hc
    obtain ⟨rfl, hc⟩ := hc
    simp only [Option.some.injEq, Prod.mk.injEq] at h
    obtain ⟨rfl, rfl⟩ := h
    obtain ⟨b, c, e', n', rfl, h1, h2, h3, h4, h5⟩ := hx.wr_inv
    have hl : ((cs.drop off).take (k * s)).length = k * s := by simp; omega
    refine ⟨by simp [Builtin.lenOf], hl, cellsAt b off c hl ?_⟩
    intro i y hy
    rw [List.getElem?_take] at hy
    split at hy
    · rw [List.getElem?_drop] at hy
      obtain ⟨u, hu, hrep⟩ := live_row hS hg h1 _ _ hy
      rw [Nat.zero_add] at hu
      exact ⟨u, hu, hrep⟩
    · cases hy
  · rename_i s
    split at h <;> (try (cases h; done))
    rename_i hs
    subst hs
    simp only [Option.some.injEq, Prod.mk.injEq] at h
    obtain ⟨rfl, rfl⟩ := h
    cases hx
    refine ⟨by simp [Builtin.lenOf], by simp, fun m hm => ⟨(s.data.toList.take m).map fun b => .int .u8 (b.toNat : Int), ⟨by simp, fun i u y hu hy => ?_⟩, fun w1 _ => ?_⟩⟩
    · rw [Nat.mul_one, ← List.map_take, List.getElem?_map] at hy
      rw [List.getElem?_toArray, List.getElem?_map] at hu
      obtain ⟨b1, hb1, rfl⟩ := Option.map_eq_some_iff.1 hu
      obtain ⟨b2, hb2, rfl⟩ := Option.map_eq_some_iff.1 hy
      rw [hb1] at hb2
      obtain rfl := Option.some.inj hb2
      exact .int _ _
    · simp only [Builtin.firstCells, Sem.run_pure]
      congr 1
      apply Array.ext'
      simp
end
/-- Called with such values, in such a memory, function f answers so. -/
def ACalls (P : Program) (f : Nat) (args : List AV) (H : AHeap) (K : AV → AHeap → Prop) : Prop :=
  ∀ (g : Ghost) (w : World) (vs : Array Value), Sim g w H → Reps g w vs args → ∀ (o : Oper) (act : Act) (next : Act → World → Prop) (Qc : Exit → Act → World → Prop),
    (∀ y H' g' w' v, K y H' → Ext g w g' w' → Sim g' w' H' → Rep g' w' v y → next (act.put o.dst v) w') → o.upon P act next Qc ((callFunc f vs).run P w)
end Go.Proofs.Ytblflecalomgfaa.AL
