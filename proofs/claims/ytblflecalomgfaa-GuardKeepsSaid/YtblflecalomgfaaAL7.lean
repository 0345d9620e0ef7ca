/- The quiet operations, all of them in one: what they answer, and that the machine's operations answer so. -/
import Derived.Test.YtblflecalomgfaaAL6
set_option linter.unusedVariables false
set_option linter.unusedSimpArgs false
namespace Go.Proofs.Ytblflecalomgfaa.AL
open Go
/-- A cut of an array that a row holds. -/
def asliceArr (H : AHeap) (sz n : Nat) : AV → Option AV → Option AV → Option AV
  | .ptr id gen o, lo, hi => match abound 0 lo, abound n hi with
    | some l, some h => match H.get id with
      | some (.row _ g cs) => if g = gen ∧ o + n * sz ≤ cs.length ∧ 0 ≤ l ∧ l ≤ h ∧ h ≤ n ∧ n ≤ 9223372036854775807 then (if l < n then some (.wr id gen (o + l.toNat * sz) (h.toNat - l.toNat) sz) else some .emp) else none
      | _ => none
    | _, _ => none
  | _, _, _ => none
inductive QOp where
  | move (x : AX)
  | pick (c x y : AX)
  | bin (op : BinOp) (x y : AX)
  | beq (neq : Bool) (x y : AX)
  | nil (k : NK) (neq : Bool) (x y : AX)
  | seq (ls : List Leaf) (neq : Bool) (x y : AX)
  | un (op : UnOp) (x : AX)
  | conv (k : IntKind) (x : AX)
  | same (x : AX)
  | b2s (x : AX)
  | build (zero : List AV) (parts : List (Nat × Nat × AX))
  | load (agg : Bool) (n : Nat) (x : AX)
  | loadr (agg : Bool) (n : Nat) (x : AX)
  | field (agg : Bool) (n off : Nat) (x : AX)
  | fieldAddr (off : Nat) (x : AX)
  | idxSl (sz : Nat) (x i : AX)
  | idxPt (sz n : Nat) (x i : AX)
  | idxStr (x i : AX)
  | idxArr (agg : Bool) (sz n : Nat) (x i : AX)
  | extract (i : Nat) (x : AX)
  | len (str : Bool) (x : AX)
  | num (n : Nat)
  | best (mx : Bool) (x y : AX)
  | mkFunc (fn : Fn) (first caps : List AX)
  | iface (t : TypeId) (x : AX)
  | sliceStr (x : AX) (lo hi : Option AX)
  | sliceSl (sz : Nat) (x : AX) (lo hi : Option AX)
  | sliceArr (sz n : Nat) (x : AX) (lo hi : Option AX)
  | nonil (x : AX)
def abeq : AV → AV → Option Bool
  | .bool a, .bool b => some (a == b)
  | _, _ => none
def aconv (k : IntKind) : AV → Option AV
  | .int _ n => some (.int k (k.wrap n))
  | _ => none
def asame : AV → Option AV
  | .str s => some (.str s)
  | _ => none
def aextract (i : Nat) : AV → Option AV
  | .tup vs => vs[i]?
  | _ => none
def alenS : AV → Option AV
  | .str s => some (.int .i64 s.size)
  | _ => none
def alenL : AV → Option AV
  | .str _ => none
  | x => alen x
/-- What cells that nobody writes to hold. -/
def aloadr (agg : Bool) (n : Nat) : AV → Option AV
  | .rd ys => apart agg n 0 ys
  | _ => none
def aq (H : AHeap) (ρ : AX → AV) : QOp → Option AV
  | .move x => some (ρ x)
  | .pick c x y => match ρ c with
    | .bool b => some (if b then ρ x else ρ y)
    | _ => none
  | .bin op x y => abin op (ρ x) (ρ y)
  | .beq n x y => (abeq (ρ x) (ρ y)).map fun b => .bool (if n then !b else b)
  | .nil k n x y => (anil k (ρ x) (ρ y)).map fun b => .bool (if n then !b else b)
  | .seq ls n x y => (aseq ls (ρ x) (ρ y)).map fun b => .bool (if n then !b else b)
  | .un op x => aun op (ρ x)
  | .conv k x => aconv k (ρ x)
  | .same x => asame (ρ x)
  | .b2s x => ab2s H (ρ x)
  | .build z ps => (afill z (ps.map fun p => (p.1, p.2.1, ρ p.2.2))).map .agg
  | .load a n x => aload H a n (ρ x)
  | .loadr a n x => aloadr a n (ρ x)
  | .field a n o x => afield a n o (ρ x)
  | .fieldAddr o x => afieldAddr o (ρ x)
  | .idxSl sz x i => aidxSl sz (ρ x) (ρ i)
  | .idxPt sz n x i => aidxPt sz n (ρ x) (ρ i)
  | .idxStr x i => aidxStr (ρ x) (ρ i)
  | .idxArr a sz n x i => aidxArr a sz n (ρ x) (ρ i)
  | .extract i x => aextract i (ρ x)
  | .len s x => if s then alenS (ρ x) else alenL (ρ x)
  | .num n => some (.int .i64 n)
  | .best m x y => abest m (ρ x) (ρ y)
  | .mkFunc fn fs cs => some (.func fn (fs.map ρ) (cs.map ρ))
  | .iface t x => some (.iface t (ρ x))
  | .sliceStr x lo hi => asliceStr (ρ x) (lo.map ρ) (hi.map ρ)
  | .sliceSl sz x lo hi => asliceSl sz (ρ x) (lo.map ρ) (hi.map ρ)
  | .sliceArr sz n x lo hi => asliceArr H sz n (ρ x) (lo.map ρ) (hi.map ρ)
  | .nonil x => anonil (ρ x)
def tr2 (x y : Operand) (f : AX → AX → QOp) : Option QOp :=
  match trX x, trX y with
  | some a, some b => some (f a b)
  | _, _ => none
def trO : Option Operand → Option (Option AX)
  | none => some none
  | some x => (trX x).map some
def trParts (place : Nat → Option (Nat × Nat)) : List (Nat × Operand) → Option (List (Nat × Nat × AX))
  | [] => some []
  | (i, x) :: l => match place i, trX x, trParts place l with
    | some (o, n), some y, some r => some ((o, n, y) :: r)
    | _, _, _ => none
def trXs : List Operand → Option (List AX)
  | [] => some []
  | x :: l => match trX x, trXs l with
    | some y, some r => some (y :: r)
    | _, _ => none
def trEq (P : Program) (n : Bool) (t : TypeId) (x y : Operand) : Option QOp :=
  match P.underlying t with
  | some (.int _) | some .string => tr2 x y (.bin (if n then .neq else .eql))
  | some .bool => tr2 x y (.beq n)
  | some (.struct _) | some (.array _ _) => if P.eqGuardType P.depth t = false then (match leaves P 9 t with | some ls => tr2 x y (.seq ls n) | none => none) else none
  | _ => match tNil P t with
    | some k => if isC x = true ∨ isC y = true then tr2 x y (.nil k n) else none
    | none => none
def trBuiltin (P : Program) (b : Builtin) (args : List Operand) (ts : List TypeId) : Option QOp :=
  match b, args, ts with
  | .len, [x], [t] => match P.underlying t with
    | some .string => (trX x).map (.len true)
    | some (.slice _) => (trX x).map (.len false)
    | some (.array n _) => some (.num n)
    | _ => none
  | .min, [x, y], _ => tr2 x y (.best false)
  | .max, [x, y], _ => tr2 x y (.best true)
  | _, _, _ => none
def isU8 (P : Program) (e : TypeId) : Bool := match P.underlying e with
  | some (.int .u8) => true
  | _ => false
def trQ (P : Program) : Op → Option QOp
  | .move x | .assign x => (trX x).map .move
  | .pick c x y => match trX c with
    | some c => tr2 x y (.pick c)
    | none => none
  | .binOp .eql t x y _ => trEq P false t x y
  | .binOp .neq t x y _ => trEq P true t x y
  | .binOp op _ x y _ => tr2 x y (.bin op)
  | .unOp op _ x => (trX x).map (.un op)
  | .convert src dst x => match P.underlying src, P.underlying dst with
    | some (.slice e), some .string => if isU8 P e = true then (trX x).map .b2s else none
    | some _, some (.int k) => (trX x).map (.conv k)
    | some _, some .string => (trX x).map .same
    | _, _ => none
  | .build t parts => match tBuild P t with
    | some (z, place) => (trParts place parts.toList).map (.build z)
    | none => none
  | .load t x => match tAgg P t, tSize P t with
    | some a, some n => (trX x).map (.load a n)
    | _, _ => none
  | .fieldAddr s x f => match tField P s f with
    | some o => (trX x).map (.fieldAddr o)
    | none => none
  | .field s x f => match tFieldV P s f with
    | some (a, n, o) => (trX x).map (.field a n o)
    | none => none
  | .indexAddr t x i => match tElem P t, tArr P t with
    | some (_, sz), _ => tr2 x i (.idxSl sz)
    | none, some (n, _, sz) => tr2 x i (.idxPt sz n)
    | none, none => none
  | .index t x i => match tArr P t with
    | some (n, e, sz) => match tAgg P e with
      | some a => tr2 x i (.idxArr a sz n)
      | none => none
    | none => match P.underlying t with
      | some .string => tr2 x i .idxStr
      | _ => none
  | .extract x i => (trX x).map (.extract i)
  | .makeFunc fn first caps => match trXs first.toList, trXs caps.toList with
    | some fs, some cs => some (.mkFunc fn fs cs)
    | _, _ => none
  | .makeInterface t x => if P.concrete t = true then (trX x).map (.iface t) else none
  | .slice t x lo hi none => match trX x, trO lo, trO hi with
    | some x, some lo, some hi => match tElem P t with
      | some (_, sz) => some (.sliceSl sz x lo hi)
      | none => match P.underlying t with
        | some .string => some (.sliceStr x lo hi)
        | some (.pointer arr) => (tArr P arr).map fun z => .sliceArr z.2.2 z.1 x lo hi
        | some (.array _ _) => (tArr P t).map fun z => .sliceArr z.2.2 z.1 x lo hi
        | _ => none
    | _, _, _ => none
  | .nilCheck x => (trX x).map .nonil
  | .call { callee := .builtin b, args := args, argTypes := ts } => trBuiltin P b args.toList ts.toList
  | _ => none
section
variable {P : Program} {g : Ghost} {w : World} {H : AHeap} {act : Act} {a : List AV}
theorem tr2_some {x y : Operand} {f : AX → AX → QOp} {q : QOp} (h : tr2 x y f = some q) : ∃ x' y', trX x = some x' ∧ trX y = some y' ∧ q = f x' y' := by
  unfold tr2 at h
  split at h <;> (try (cases h; done))
  exact ⟨_, _, by assumption, by assumption, (Option.some.inj h).symm⟩
theorem trO_rep (hR : RepAct g w act a) {x : Option Operand} {y : Option AX} (h : trO x = some y) : OptRep g w (x.map act.eval) (y.map (AX.ev a)) := by
  cases x with
  | none => obtain rfl := Option.some.inj h; trivial
  | some x =>
    obtain ⟨z, hz, rfl⟩ := Option.map_eq_some_iff.1 h
    exact trX_rep hR hz
theorem trXs_rep (hR : RepAct g w act a) : ∀ (l : List Operand) (ys : List AX), trXs l = some ys → Reps g w (l.map act.eval).toArray (ys.map (AX.ev a))
  | [], ys, h => by
    obtain rfl := Option.some.inj h
    exact ⟨rfl, fun i v y h => by simp at h⟩
  | x :: l, ys, h => by
    simp only [trXs] at h
    split at h <;> (try (cases h; done))
    rename_i y r hy hr
    obtain rfl := Option.some.inj h
    have ih := trXs_rep hR l r hr
    refine ⟨by simpa using ih.1, fun i v z h1 h2 => ?_⟩
    cases i with
    | zero => simp at h1 h2; subst h1; subst h2; exact trX_rep hR hy
    | succ i => exact ih.2 i v z (by simpa using h1) (by simpa using h2)
theorem trParts_rep (hR : RepAct g w act a) (place : Nat → Option (Nat × Nat)) : ∀ (l : List (Nat × Operand)) (ps : List (Nat × Nat × AX)), trParts place l = some ps →
    l.length = ps.length ∧ ∀ (j : Nat) (p : Nat × Operand) (q : Nat × Nat × AX), l[j]? = some p → ps[j]? = some q → place p.1 = some (q.1, q.2.1) ∧ Rep g w (act.eval p.2) (q.2.2.ev a)
  | [], ps, h => by
    obtain rfl := Option.some.inj h
    exact ⟨rfl, fun j p q h => by simp at h⟩
  | (i, x) :: l, ps, h => by
    simp only [trParts] at h
    split at h <;> (try (cases h; done))
    rename_i o n y r hp hy hr
    obtain rfl := Option.some.inj h
    have ih := trParts_rep hR place l r hr
    refine ⟨by simp [ih.1], fun j p q h1 h2 => ?_⟩
    cases j with
    | zero => simp at h1 h2; subst h1; subst h2; exact ⟨hp, trX_rep hR hy⟩
    | succ j => exact ih.2 j p q (by simpa using h1) (by simpa using h2)
theorem run_v {o : Oper} {s : Sem Value} {v : Value} {y : AV} (he : execOp act.eval o = (do pure (.value (← s)))) (hs : s.run P w = .ok v w) (hr : Rep g w v y) :
    ∃ v, (execOp act.eval o).run P w = .ok (.value v) w ∧ Rep g w v y := by
  refine ⟨v, ?_, hr⟩
  rw [he]
  simp [hs]
theorem aeq_sound {n : Bool} {t : TypeId} {x y : Operand} {q : QOp} (hR : RepAct g w act a) (h : trEq P n t x y = some q) {z : AV} (hq : aq H (AX.ev a) q = some z) :
    ∃ v, (do eqGuard (if n then .neq else .eql) t x y (act.eval x) (act.eval y); binOp (if n then .neq else .eql) t (act.eval x) (act.eval y) : Sem Value).run P w = .ok v w ∧ Rep g w v z := by
  have fin : ∀ {b : Bool}, ((do eqGuard .eql t x y (act.eval x) (act.eval y); binOp .eql t (act.eval x) (act.eval y) : Sem Value).run P w = .ok (.bool b) w ∧ (do eqGuard .neq t x y (act.eval x) (act.eval y); binOp .neq t (act.eval x) (act.eval y) : Sem Value).run P w = .ok (.bool !b) w) → some (AV.bool (if n then !b else b)) = some z →
      ∃ v, (do eqGuard (if n then .neq else .eql) t x y (act.eval x) (act.eval y); binOp (if n then .neq else .eql) t (act.eval x) (act.eval y) : Sem Value).run P w = .ok v w ∧ Rep g w v z := by
    intro b hb hz
    obtain rfl := Option.some.inj hz
    cases n
    · exact ⟨_, hb.1, .bool _⟩
    · exact ⟨_, hb.2, .bool _⟩
  have agg : ∀ ls, tAgg P t = some true → P.eqGuardType P.depth t = false → leaves P 9 t = some ls → tr2 x y (.seq ls n) = some q → ∃ v, (do eqGuard (if n then .neq else .eql) t x y (act.eval x) (act.eval y); binOp (if n then .neq else .eql) t (act.eval x) (act.eval y) : Sem Value).run P w = .ok v w ∧ Rep g w v z := by
    intro ls h1 h2 h3 h4
    obtain ⟨x', y', hx, hy, rfl⟩ := tr2_some h4
    simp only [aq] at hq
    obtain ⟨b, hb, hz⟩ := Option.map_eq_some_iff.1 hq
    exact fin (run_aseq h3 h1 h2 (trX_rep hR hx) (trX_rep hR hy) hb x y) (by rw [hz])
  unfold trEq at h
  split at h <;> rename_i hu
  · obtain ⟨x', y', hx, hy, rfl⟩ := tr2_some h
    simp only [aq] at hq
    exact run_abin P w _ t (trX_rep hR hx) (trX_rep hR hy) hq x y
  · obtain ⟨x', y', hx, hy, rfl⟩ := tr2_some h
    simp only [aq] at hq
    exact run_abin P w _ t (trX_rep hR hx) (trX_rep hR hy) hq x y
  · obtain ⟨x', y', hx, hy, rfl⟩ := tr2_some h
    simp only [aq] at hq
    obtain ⟨b, hb, hz⟩ := Option.map_eq_some_iff.1 hq
    have rx := trX_rep hR hx
    have ry := trX_rep hR hy
    unfold abeq at hb
    split at hb <;> (try (cases hb; done))
    rename_i p r h1 h2
    rw [h1] at rx
    rw [h2] at ry
    obtain rfl := Option.some.inj hb
    refine fin ?_ (by rw [hz])
    generalize act.eval x = u at rx
    generalize act.eval y = v at ry
    cases rx; cases ry
    have he : (Op.equal t (.bool p) (.bool r)).run P w = .ok (p == r) w := run_equalIn_bool' w 9999 t p r hu
    have e1 : binOp .eql t (.bool p) (.bool r) = (do pure (.bool (← Op.equal t (.bool p) (.bool r))) : Sem Value) := rfl
    have e2 : binOp .neq t (.bool p) (.bool r) = (do pure (.bool (!(← Op.equal t (.bool p) (.bool r)))) : Sem Value) := rfl
    rw [e1, e2]
    simp only [eqGuard_at_bool, Sem.run_bind, Sem.run_pure, Result.andThen_ok, he]
    exact ⟨trivial, trivial⟩
  · split at h <;> (try (cases h; done))
    split at h <;> (try (cases h; done))
    exact agg _ (by simp [tAgg, hu]) (by assumption) (by assumption) h
  · split at h <;> (try (cases h; done))
    split at h <;> (try (cases h; done))
    exact agg _ (by simp [tAgg, hu]) (by assumption) (by assumption) h
  · split at h <;> (try (cases h; done))
    rename_i k hk
    split at h <;> (try (cases h; done))
    rename_i hc
    obtain ⟨x', y', hx, hy, rfl⟩ := tr2_some h
    simp only [aq] at hq
    obtain ⟨b, hb, hz⟩ := Option.map_eq_some_iff.1 hq
    exact fin (run_anil hk (trX_rep hR hx) (trX_rep hR hy) hb x y hc) (by rw [hz])
theorem isU8_spec {e : TypeId} (h : isU8 P e = true) : P.underlying e = some (.int .u8) := by
  unfold isU8 at h
  split at h
  · assumption
  · cases h
theorem bool_inv {v : Value} {b : Bool} (h : Rep g w v (.bool b)) : v = .bool b := by cases h; rfl
theorem int_inv {v : Value} {k : IntKind} {n : Int} (h : Rep g w v (.int k n)) : v = .int k n := by cases h; rfl
theorem str_inv {v : Value} {s : ByteArray} (h : Rep g w v (.str s)) : v = .string s := by cases h; rfl
theorem iface_inv {v : Value} {t : TypeId} {y : AV} (h : Rep g w v (.iface t y)) : ∃ u, v = .iface t u := by cases h; exact ⟨_, rfl⟩
theorem run_sliceArr {t arr e : TypeId} {sz n : Nat} {v : Value} {lo hi : Option Value} {x y : AV} {lo' hi' : Option AV} (hp : P.underlying t = some (.pointer arr)) (ht : tArr P arr = some (n, e, sz)) (hS : Sim g w H) (hx : Rep g w v x) (hlo : OptRep g w lo lo') (hhi : OptRep g w hi hi') (h : asliceArr H sz n x lo' hi' = some y) :
    ∃ u, (Instr.sliceAt t v lo hi none).run P w = .ok u w ∧ Rep g w u y := by
  obtain ⟨hu, hs⟩ := tArr_spec ht
  cases x with
  | ptr id gen o =>
    simp only [asliceArr] at h
    split at h <;> (try (cases h; done))
    rename_i l r hl hr
    split at h <;> (try (cases h; done))
    rename_i e2 g2 cs hg
    split at h <;> (try (cases h; done))
    rename_i hc
    obtain ⟨rfl, c0, c1, c2, c3, c4⟩ := hc
    obtain ⟨b, rfl, hb⟩ := hx.ptr_inv
    have hbn := run_bounds (P := P) (w := w) (g := g) false n n hlo hhi hl hr c1 c2 c3
    have hrun : (Instr.sliceAt t (.pointer (some ⟨b, o, none⟩)) lo hi none).run P w = .ok (.slice (some (if n = l.toNat then ⟨b, o, none⟩ else (⟨b, o, none⟩ : Addr).add (l.toNat * sz))) (r.toNat - l.toNat) (n - l.toNat)) w := by
      simp [Instr.sliceAt, Instr.slice, run_underlying hp, run_underlying hu, hbn, run_sizeOf hs, asAddr]
    refine ⟨_, hrun, ?_⟩
    obtain ⟨b', cur, fl, fh, q1, q2, q3, q4, q5⟩ := hS.live id _ hg
    rw [hb] at q1
    obtain rfl := Option.some.inj q1
    have hsh : w.shape? b = some (e2, cur.size) := by simp [World.shape?, q2]
    split at h
    · rename_i hd
      obtain rfl := Option.some.inj h
      rw [if_neg (by omega), Addr.add_lit]
      refine .wr _ _ _ _ _ b _ e2 cur.size hb hsh ?_ (by omega) (by omega)
      have : l.toNat * sz + (n - l.toNat) * sz = n * sz := by rw [← Nat.add_mul]; congr 1; omega
      omega
    · obtain rfl := Option.some.inj h
      rw [show r.toNat - l.toNat = 0 by omega]
      exact .emp _ _
  | _ => simp [asliceArr] at h
theorem run_sliceArr0 {t e : TypeId} {sz n : Nat} {v : Value} {lo hi : Option Value} {x y : AV} {lo' hi' : Option AV} (ht : tArr P t = some (n, e, sz)) (hS : Sim g w H) (hx : Rep g w v x) (hlo : OptRep g w lo lo') (hhi : OptRep g w hi hi') (h : asliceArr H sz n x lo' hi' = some y) :
    ∃ u, (Instr.sliceAt t v lo hi none).run P w = .ok u w ∧ Rep g w u y := by
  obtain ⟨hu, hs⟩ := tArr_spec ht
  cases x with
  | ptr id gen o =>
    simp only [asliceArr] at h
    split at h <;> (try (cases h; done))
    rename_i l r hl hr
    split at h <;> (try (cases h; done))
    rename_i e2 g2 cs hg
    split at h <;> (try (cases h; done))
    rename_i hc
    obtain ⟨rfl, c0, c1, c2, c3, c4⟩ := hc
    obtain ⟨b, rfl, hb⟩ := hx.ptr_inv
    have hbn := run_bounds (P := P) (w := w) (g := g) false n n hlo hhi hl hr c1 c2 c3
    have hrun : (Instr.sliceAt t (.pointer (some ⟨b, o, none⟩)) lo hi none).run P w = .ok (.slice (some (if n = l.toNat then ⟨b, o, none⟩ else (⟨b, o, none⟩ : Addr).add (l.toNat * sz))) (r.toNat - l.toNat) (n - l.toNat)) w := by
      simp [Instr.sliceAt, run_underlying hu, hbn, run_sizeOf hs, Instr.sureAddr]
    refine ⟨_, hrun, ?_⟩
    obtain ⟨b', cur, fl, fh, q1, q2, q3, q4, q5⟩ := hS.live id _ hg
    rw [hb] at q1
    obtain rfl := Option.some.inj q1
    have hsh : w.shape? b = some (e2, cur.size) := by simp [World.shape?, q2]
    split at h
    · rename_i hd
      obtain rfl := Option.some.inj h
      rw [if_neg (by omega), Addr.add_lit]
      refine .wr _ _ _ _ _ b _ e2 cur.size hb hsh ?_ (by omega) (by omega)
      have : l.toNat * sz + (n - l.toNat) * sz = n * sz := by rw [← Nat.add_mul]; congr 1; omega
      omega
    · obtain rfl := Option.some.inj h
      rw [show r.toNat - l.toNat = 0 by omega]
      exact .emp _ _
  | _ => simp [asliceArr] at h
theorem aq_sound {o : Oper} {q : QOp} {y : AV} (h : trQ P o.op = some q) (hS : Sim g w H) (hR : RepAct g w act a) (hq : aq H (AX.ev a) q = some y) :
    ∃ v, (execOp act.eval o).run P w = .ok (.value v) w ∧ Rep g w v y := by
  have one : ∀ {x : Operand} {f : AX → QOp}, (trX x).map f = some q → ∃ x', trX x = some x' ∧ q = f x' := by
    intro x f hh
    obtain ⟨x', h1, h2⟩ := Option.map_eq_some_iff.1 hh
    exact ⟨x', h1, h2.symm⟩
  have fin : ∀ {s : Sem Value}, execOp act.eval o = (do pure (.value (← s))) → (∃ v, s.run P w = .ok v w ∧ Rep g w v y) → ∃ v, (execOp act.eval o).run P w = .ok (.value v) w ∧ Rep g w v y := by
    intro s h1 ⟨v, h2, h3⟩
    exact run_v h1 h2 h3
  unfold trQ at h
  split at h <;> rename_i hop <;> (try (cases h; done))
  · obtain ⟨x', hx, rfl⟩ := one h
    obtain rfl := Option.some.inj hq
    exact ⟨_, by simp [execOp, hop], trX_rep hR hx⟩
  · obtain ⟨x', hx, rfl⟩ := one h
    obtain rfl := Option.some.inj hq
    exact ⟨_, by simp [execOp, hop], trX_rep hR hx⟩
  · split at h <;> (try (cases h; done))
    rename_i c' hc
    obtain ⟨x', y', hx, hy, rfl⟩ := tr2_some h
    simp only [aq] at hq
    split at hq <;> (try (cases hq; done))
    rename_i b hb
    obtain rfl := Option.some.inj hq
    have hcr := trX_rep hR hc
    rw [hb] at hcr
    have hcv := bool_inv hcr
    refine ⟨if b then _ else _, by simp [execOp, hop, hcv, asBool]; rfl, ?_⟩
    cases b
    · exact trX_rep hR hy
    · exact trX_rep hR hx
  · exact fin (by simp only [execOp, hop] <;> rfl) (aeq_sound hR h hq)
  · exact fin (by simp only [execOp, hop] <;> rfl) (aeq_sound hR h hq)
  · obtain ⟨x', y', hx, hy, rfl⟩ := tr2_some h
    exact fin (by simp only [execOp, hop] <;> rfl) (run_abin P w _ _ (trX_rep hR hx) (trX_rep hR hy) hq _ _)
  · obtain ⟨x', hx, rfl⟩ := one h
    exact fin (by simp only [execOp, hop] <;> rfl) (run_aun (trX_rep hR hx) hq)
  · split at h <;> (try (cases h; done))
    · rename_i e hs hd
      split at h <;> (try (cases h; done))
      rename_i he
      obtain ⟨x', hx, rfl⟩ := one h
      exact fin (by simp only [execOp, hop] <;> rfl) (run_ab2s hS hs (isU8_spec he) hd (trX_rep hR hx) hq)
    · rename_i d k hs hd
      obtain ⟨x', hx, rfl⟩ := one h
      refine fin (by simp only [execOp, hop] <;> rfl) ?_
      have hr := trX_rep hR hx
      simp only [aq] at hq
      unfold aconv at hq
      split at hq <;> (try (cases hq; done))
      rename_i k' n hn
      rw [hn] at hr
      obtain rfl := Option.some.inj hq
      rw [int_inv hr]
      refine ⟨_, ?_, .int _ _⟩
      simp [convert, run_underlying hs, run_underlying hd, Conv.intToInt]
    · rename_i d _ hs hd
      obtain ⟨x', hx, rfl⟩ := one h
      refine fin (by simp only [execOp, hop] <;> rfl) ?_
      have hr := trX_rep hR hx
      simp only [aq] at hq
      unfold asame at hq
      split at hq <;> (try (cases hq; done))
      rename_i s hn
      rw [hn] at hr
      obtain rfl := Option.some.inj hq
      rw [str_inv hr]
      refine ⟨.string s, ?_, .str _⟩
      simp [convert, run_underlying hs, run_underlying hd]
  · split at h <;> (try (cases h; done))
    rename_i z place hb
    obtain ⟨ps, hps, rfl⟩ := Option.map_eq_some_iff.1 h
    simp only [aq] at hq
    obtain ⟨res, hres, rfl⟩ := Option.map_eq_some_iff.1 hq
    obtain ⟨hl, hp⟩ := trParts_rep hR place _ _ hps
    refine fin (by simp only [execOp, hop] <;> rfl) (run_tbuild hb _ _ (by simpa using hl) (fun j p q h1 h2 => ?_) hres)
    rw [Array.getElem?_map] at h1
    rw [List.getElem?_map] at h2
    obtain ⟨p', hp1, rfl⟩ := Option.map_eq_some_iff.1 h1
    obtain ⟨q', hq1, rfl⟩ := Option.map_eq_some_iff.1 h2
    exact hp j p' q' (by simpa using hp1) hq1
  · split at h <;> (try (cases h; done))
    rename_i ag n ha hn
    obtain ⟨x', hx, rfl⟩ := one h
    exact fin (by simp only [execOp, hop] <;> rfl) (run_aload hS ha hn (trX_rep hR hx) hq)
  · split at h <;> (try (cases h; done))
    rename_i off hf
    obtain ⟨x', hx, rfl⟩ := one h
    exact fin (by simp only [execOp, hop] <;> rfl) (run_fieldAddr hf (trX_rep hR hx) hq)
  · split at h <;> (try (cases h; done))
    rename_i ag n off hf
    obtain ⟨x', hx, rfl⟩ := one h
    exact fin (by simp only [execOp, hop] <;> rfl) (run_field hf (trX_rep hR hx) hq)
  · split at h <;> (try (cases h; done))
    · rename_i e sz he
      obtain ⟨x', y', hx, hy, rfl⟩ := tr2_some h
      exact fin (by simp only [execOp, hop] <;> rfl) (run_idxSl he (trX_rep hR hx) (trX_rep hR hy) hq)
    · rename_i n e sz _ he
      obtain ⟨x', y', hx, hy, rfl⟩ := tr2_some h
      exact fin (by simp only [execOp, hop] <;> rfl) (run_idxPt he (trX_rep hR hx) (trX_rep hR hy) hq)
  · split at h <;> (try (cases h; done))
    · rename_i n e sz he
      split at h <;> (try (cases h; done))
      rename_i ag ha
      obtain ⟨x', y', hx, hy, rfl⟩ := tr2_some h
      exact fin (by simp only [execOp, hop] <;> rfl) (run_idxArr he ha (trX_rep hR hx) (trX_rep hR hy) hq)
    · split at h <;> (try (cases h; done))
      rename_i hu
      obtain ⟨x', y', hx, hy, rfl⟩ := tr2_some h
      exact fin (by simp only [execOp, hop] <;> rfl) (run_idxStr hu (trX_rep hR hx) (trX_rep hR hy) hq)
  · obtain ⟨x', hx, rfl⟩ := one h
    refine fin (by simp only [execOp, hop] <;> rfl) ?_
    have hr := trX_rep hR hx
    simp only [aq] at hq
    unfold aextract at hq
    split at hq <;> (try (cases hq; done))
    rename_i vs hn
    rw [hn] at hr
    obtain ⟨us, hus, hreps⟩ := hr.tup_inv
    obtain ⟨u, hu, hrep⟩ := hreps.get hq
    exact ⟨u, by simp [Instr.extract, hus, hu], hrep⟩
  · split at h <;> (try (cases h; done))
    rename_i fs cs h1 h2
    obtain rfl := Option.some.inj h
    obtain rfl := Option.some.inj hq
    have r1 := trXs_rep hR _ _ h1
    have r2 := trXs_rep hR _ _ h2
    refine fin (by simp only [execOp, hop] <;> rfl) ⟨_, by simp [Instr.makeFunc]; rfl, ?_⟩
    exact .func _ _ _ _ _ (by simpa using r1.1) (by simpa using r2.1) (fun i v y h1 h2 => r1.2 i v y (by simpa using h1) h2) (fun i v y h1 h2 => r2.2 i v y (by simpa using h1) h2)
  · split at h <;> (try (cases h; done))
    rename_i hc
    obtain ⟨x', hx, rfl⟩ := one h
    obtain rfl := Option.some.inj hq
    exact fin (by simp only [execOp, hop] <;> rfl) ⟨_, run_makeInterface w _ _ hc, .iface _ _ _ (trX_rep hR hx)⟩
  · split at h <;> (try (cases h; done))
    rename_i x' lo' hi' hx hlo hhi
    split at h
    · rename_i e sz he
      obtain rfl := Option.some.inj h
      exact fin (by simp only [execOp, hop] <;> rfl) (run_sliceSl he (trX_rep hR hx) (trO_rep hR hlo) (trO_rep hR hhi) hq)
    · split at h <;> (try (cases h; done))
      · rename_i hu
        obtain rfl := Option.some.inj h
        exact fin (by simp only [execOp, hop] <;> rfl) (run_sliceStr hu (trX_rep hR hx) (trO_rep hR hlo) (trO_rep hR hhi) hq)
      · rename_i arr hu
        obtain ⟨z, hz, rfl⟩ := Option.map_eq_some_iff.1 h
        obtain ⟨n, e, sz⟩ := z
        exact fin (by simp only [execOp, hop] <;> rfl) (run_sliceArr hu hz hS (trX_rep hR hx) (trO_rep hR hlo) (trO_rep hR hhi) hq)
      · obtain ⟨z, hz, rfl⟩ := Option.map_eq_some_iff.1 h
        obtain ⟨n, e, sz⟩ := z
        exact fin (by simp only [execOp, hop] <;> rfl) (run_sliceArr0 hz hS (trX_rep hR hx) (trO_rep hR hlo) (trO_rep hR hhi) hq)
  · obtain ⟨x', hx, rfl⟩ := one h
    have hr := trX_rep hR hx
    simp only [aq] at hq
    unfold anonil at hq
    split at hq <;> (try (cases hq; done)) <;> rename_i hn <;> rw [hn] at hr <;> obtain rfl := Option.some.inj hq
    · obtain ⟨b, hv, _⟩ := hr.ptr_inv
      exact ⟨_, by simp [execOp, hop, hv]; rfl, by rw [hv] at hr; exact hr⟩
    · obtain ⟨b, o, u, hv, _⟩ := hr.rd_inv
      exact ⟨_, by simp [execOp, hop, hv]; rfl, by rw [hv] at hr; exact hr⟩
    · obtain ⟨fs, cs, hv, _⟩ := hr.func_inv
      exact ⟨_, by simp [execOp, hop, hv]; rfl, by rw [hv] at hr; exact hr⟩
    · obtain ⟨v, hv⟩ := iface_inv hr
      exact ⟨_, by simp [execOp, hop, hv]; rfl, by rw [hv] at hr; exact hr⟩
  · rename_i b args ts
    obtain ⟨args⟩ := args
    obtain ⟨ts⟩ := ts
    unfold trBuiltin at h
    split at h <;> (try (cases h; done))
    · rename_i x t hargs hts
      simp only at hargs hts
      subst hargs; subst hts
      have hex : execOp act.eval o = (do pure (.value (← Builtin.len_ #[t] o.type #[act.eval x]))) := by
        simp [execOp, hop, resolve, invoke, builtin]
      split at h <;> (try (cases h; done))
      · rename_i hu
        obtain ⟨x', hx, rfl⟩ := one h
        have hr := trX_rep hR hx
        simp only [aq, if_true] at hq
        unfold alenS at hq
        split at hq <;> (try (cases hq; done))
        rename_i s hn
        rw [hn] at hr
        obtain rfl := Option.some.inj hq
        exact fin hex ⟨_, by simp [Builtin.len_, run_underlying hu, str_inv hr, goInt], .int _ _⟩
      · rename_i e hu
        obtain ⟨x', hx, rfl⟩ := one h
        simp only [aq, Bool.false_eq_true, if_false] at hq
        unfold alenL at hq
        split at hq <;> (try (cases hq; done))
        rename_i hns
        exact fin hex (run_alen (by simp [tLen, hu]) (trX_rep hR hx) hq (fun s hs => absurd hs (hns s)) (fun _ => ⟨e, hu⟩))
      · rename_i n e hu
        obtain rfl := Option.some.inj h
        obtain rfl := Option.some.inj hq
        exact fin hex ⟨_, by simp [Builtin.len_, run_underlying hu, goInt], .int _ _⟩
    · rename_i x z hargs
      simp only at hargs
      subst hargs
      obtain ⟨x', y', hx, hy, rfl⟩ := tr2_some h
      exact fin (s := Builtin.min_ ⟨ts⟩ o.type #[act.eval x, act.eval z]) (by simp [execOp, hop, resolve, invoke, builtin]) (run_abest (trX_rep hR hx) (trX_rep hR hy) false hq ⟨ts⟩ o.type)
    · rename_i x z hargs
      simp only at hargs
      subst hargs
      obtain ⟨x', y', hx, hy, rfl⟩ := tr2_some h
      exact fin (s := Builtin.max_ ⟨ts⟩ o.type #[act.eval x, act.eval z]) (by simp [execOp, hop, resolve, invoke, builtin]) (run_abest (trX_rep hR hx) (trX_rep hR hy) true hq ⟨ts⟩ o.type)
end
end Go.Proofs.Ytblflecalomgfaa.AL
