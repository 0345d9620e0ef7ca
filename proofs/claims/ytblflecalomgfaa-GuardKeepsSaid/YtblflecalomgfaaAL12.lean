/- Code, told of the plain picture: what must hold ahead of it for something to hold behind it; and that the machine keeps to it. -/
import Derived.Test.YtblflecalomgfaaALM
import Derived.Deep.LoopGhost
import Derived.Scope
set_option linter.unusedVariables false
set_option linter.unusedSimpArgs false
namespace Go.Proofs.Ytblflecalomgfaa.AL
open Go
def aput (a : List AV) : Option Nat → AV → List AV
  | none, _ => a
  | some d, y => a.set d y
/-- Who is called: a function, or a slot's. -/
inductive CF where
  | fn (f : Nat)
  | val (x : AX)
/-- 'c': a call that answers one thing and leaves memory alone. -/
inductive AOp where
  | q (x : QOp)
  | s (x : SOp)
  | c (f : CF) (args : List AX)
structure AOper where
  dst : Option Nat
  op : AOp
  guard : Option (Nat × Bool)
inductive ACode where
  | skip
  | region (ops : List AOper)
  | regionN (n : Nat) (ops : List AOper)
  | seq (a b : ACode)
  | cond (c : AX) (x y : ACode)
  | block (id : Nat) (c : ACode)
  | loop (c : ACode)
  | exit (id : Nat)
  | ret
inductive AExit where
  | normal
  | exit (id : Nat)
  | ret
def ccall (C : (Nat → List AV → AHeap → (AV → AHeap → Prop) → Prop)) (ρ : AX → AV) (f : CF) (args : List AX) (H : AHeap) (K : AV → AHeap → Prop) : Prop := match f with
  | .fn f => C f (args.map ρ) H K
  | .val x => match ρ x with
    | .func (.func f) fs cs => C f (fs ++ args.map ρ ++ cs) H K
    | _ => False
def aop (C : (Nat → List AV → AHeap → (AV → AHeap → Prop) → Prop)) (o : AOp) (a : List AV) (H : AHeap) (K : AV → AHeap → Prop) : Prop :=
  match o with
  | .q q => ∃ y, aq H (AX.ev a) q = some y ∧ K y H
  | .s s => as_ C H (AX.ev a) s K
  | .c f args => ∃ y, ccall C (AX.ev a) f args H (fun y' H' => y' = y ∧ H' = H) ∧ K y H
/-- Whether an operation is wanted, by its guard's slot: a skipped operation's slot holds the empty tuple. -/
def gdv (x : AV) (want : Bool) : Option Bool :=
  match x with
  | .bool b => some (b == want)
  | .tup [] => some false
  | _ => none
def agop (C : (Nat → List AV → AHeap → (AV → AHeap → Prop) → Prop)) (o : AOp) (b : Bool) (a : List AV) (H : AHeap) (K : AV → AHeap → Prop) : Prop :=
  match o with
  | .q q => (b = true → (aq H (AX.ev a) q).isSome = true) ∧ K (if b then (aq H (AX.ev a) q).getD .top else .tup []) H
  | .s s => if b = true then as_ C H (AX.ev a) s K else K (.tup []) H
  | .c f args => ∃ y, (b = true → ccall C (AX.ev a) f args H (fun y' H' => y' = y ∧ H' = H)) ∧ K (if b then y else .tup []) H
def astep (C : (Nat → List AV → AHeap → (AV → AHeap → Prop) → Prop)) (o : AOper) (a : List AV) (H : AHeap) (K : List AV → AHeap → Prop) : Prop :=
  match o.guard with
  | none => aop C o.op a H fun y H' => K (aput a o.dst y) H'
  | some (t, want) => match gdv (a.getD t .top) want with
    | some b => agop C o.op b a H fun y H' => K (aput a o.dst y) H'
    | none => False
def aops (C : (Nat → List AV → AHeap → (AV → AHeap → Prop) → Prop)) : List AOper → List AV → AHeap → (List AV → AHeap → Prop) → Prop
  | [], a, H, Q => Q a H
  | o :: l, a, H, Q => astep C o a H fun a' H' => aops C l a' H' Q
/-- The same slots, but for such as are forgotten. -/
def Forget (a a' : List AV) : Prop := a.length = a'.length ∧ ∀ (i : Nat) (y z : AV), a[i]? = some y → a'[i]? = some z → z = y ∨ z = .top
def awp (C : (Nat → List AV → AHeap → (AV → AHeap → Prop) → Prop)) : ACode → (AExit → List AV → AHeap → Prop) → List AV → AHeap → Prop
  | .skip, Q, a, H => Q .normal a H
  | .region ops, Q, a, H => aops C ops a H (Q .normal)
  | .regionN n ops, Q, a, H => n ≤ a.length ∧ aops C ops a H (Q .normal)
  | .seq x y, Q, a, H => awp C x (fun e a H => match e with
    | .normal => awp C y Q a H
    | e => Q e a H) a H
  | .cond c x y, Q, a, H => match c.ev a with
    | .bool b => if b = true then awp C x Q a H else awp C y Q a H
    | _ => False
  | .block id c, Q, a, H => awp C c (fun e a H => match e with
    | .exit i => if i = id then Q .normal a H else Q (.exit i) a H
    | e => Q e a H) a H
  | .loop c, Q, a, H => ∃ (I : List AV → AHeap → Prop) (μ : List AV → AHeap → Nat), (∃ a2, Forget a a2 ∧ I a2 H) ∧
      ∀ a H, I a H → awp C c (fun e a' H' => match e with
        | .normal => ∃ a2, Forget a' a2 ∧ I a2 H' ∧ μ a2 H' < μ a H
        | e => Q e a' H') a H
  | .exit i, Q, a, H => Q (.exit i) a H
  | .ret, Q, a, H => Q .ret a H
def trOp (P : Program) (op : Op) : Option AOp :=
  match trQ P op with
  | some q => some (.q q)
  | none => (trS P op).map .s
def trGuard (ops : Array Oper) : Option (Nat × Bool) → Option (Option (Nat × Bool))
  | none => some none
  | some (j, b) => match (ops[j]?).bind (·.dst) with
    | some t => some (some (t, b))
    | none => none
/-- A literal slice that is a row of one's own. -/
def trLit (P : Program) : Op → Option AOp
  | .buildSlice t n parts => match tElem P t, trXs (parts.toList.map (·.2)) with
    | some (e, sz), some ps => if parts.size = n ∧ litOk 0 parts.toList = true ∧ n * sz ≤ 16777216 ∧ 0 < sz ∧ zOk P e sz = true then some (.s (.litw e sz ps)) else none
    | _, _ => none
  | _ => none
/-- W: the slots whose literal slices are rows of one's own. -/
def trOpW (P : Program) (W : List Nat) (o : Oper) : Option AOp := match o.dst.any W.contains with
  | true => trLit P o.op
  | false => trOp P o.op
/-- What is not told of is not to be reached. -/
def trOpT (P : Program) (W : List Nat) (o : Oper) : AOp := (trOpW P W o).getD (.s .stop)
def trOper (P : Program) (W : List Nat) (ops : Array Oper) (o : Oper) : Option AOper := (trGuard ops o.guard).map fun gd => ⟨o.dst, trOpT P W o, gd⟩
def trOpers (P : Program) (W : List Nat) (ops : Array Oper) : List Oper → Option (List AOper)
  | [] => some []
  | o :: l => match trOper P W ops o, trOpers P W ops l with
    | some x, some r => some (x :: r)
    | _, _ => none
section
variable {P : Program} {g : Ghost} {w : World} {H : AHeap} {act : Act} {a : List AV}
theorem RepAct.put {g' : Ghost} {w' : World} (hR : RepAct g w act a) (hE : Ext g w g' w') {v : Value} {y : AV} (hv : Rep g' w' v y) (d : Option Nat) : RepAct g' w' (act.put d v) (aput a d y) := by
  cases d with
  | none => exact hR.ext hE
  | some d =>
    refine ⟨hR.defers, by simp [Act.put, aput, hR.size], fun i u z hu hz => ?_⟩
    simp only [Act.put, aput] at hu hz
    by_cases hi : d = i
    · subst hi
      have hd : d < act.tmps.size := by
        have := (Array.getElem?_eq_some_iff.1 hu).1
        simpa using this
      rw [Array.getElem?_setIfInBounds_self_of_lt hd] at hu
      rw [List.getElem?_set_self (by rw [← hR.size]; exact hd)] at hz
      obtain rfl := Option.some.inj hu
      obtain rfl := Option.some.inj hz
      exact hv
    · rw [Array.getElem?_setIfInBounds_ne hi] at hu
      rw [List.getElem?_set_ne hi] at hz
      exact (hR.rep i u z hu hz).ext hE
/-- What follows an operation. -/
def Then (g : Ghost) (w : World) (K : AV → AHeap → Prop) (next : Value → World → Prop) : Prop :=
  ∀ y H' g' w' v, K y H' → Ext g w g' w' → Sim g' w' H' → Rep g' w' v y → next v w'
theorem wp_of_goes {o : Oper} {s : Sem Value} {K : AV → AHeap → Prop} {next : Act → World → Prop} {Qc : Exit → Act → World → Prop} (he : execOp act.eval o = (do pure (.value (← s)))) (h : Goes P g w s K) (hn : Then g w K fun v w' => next (act.put o.dst v) w') : o.wp P act w next Qc := by
  obtain ⟨v, w', g', y, H', h1, h2, h3, h4, h5⟩ := h
  unfold Oper.wp
  rw [he]
  simp only [Sem.run_bind, h1, Result.andThen_ok, Sem.run_pure, Oper.upon_value]
  exact hn y H' g' w' v h5 h2 h3 h4
theorem as_sound {o : Oper} {s : SOp} {K : AV → AHeap → Prop} {next : Act → World → Prop} {Qc : Exit → Act → World → Prop} (h : trS P o.op = some s) (hS : Sim g w H) (hR : RepAct g w act a) (hk : as_ (ACalls P) H (AX.ev a) s K) (hn : Then g w K fun v w' => next (act.put o.dst v) w') : o.wp P act w next Qc := by
  have one : ∀ {x : Operand} {f : AX → SOp}, (trX x).map f = some s → ∃ x', trX x = some x' ∧ s = f x' := by
    intro x f hh
    obtain ⟨x', h1, h2⟩ := Option.map_eq_some_iff.1 hh
    exact ⟨x', h1, h2.symm⟩
  have two : ∀ {x y : Operand} {op : BinOp} {x' y' : AX}, tr2 x y (.bin .add) = some (.bin op x' y') → trX x = some x' ∧ trX y = some y' := by
    intro x y op x' y' hh
    obtain ⟨x2, y2, h1, h2, h3⟩ := tr2_some hh
    cases h3
    exact ⟨h1, h2⟩
  unfold trS at h
  split at h <;> rename_i hop <;> (try (cases h; done))
  · obtain ⟨z, hz, rfl⟩ := Option.map_eq_some_iff.1 h
    exact wp_of_goes (by simp only [execOp, hop] <;> rfl) (goes_alloc hS hz hk) hn
  · obtain ⟨x', hx, rfl⟩ := one h
    exact wp_of_goes (by simp only [execOp, hop] <;> rfl) (goes_box hS (trX_rep hR hx) hk.1 hk.2) hn
  · split at h <;> (try (cases h; done))
    rename_i n x' v' hsz hx hv
    obtain rfl := Option.some.inj h
    obtain ⟨H', hst, hk⟩ := hk
    obtain ⟨w', g', h1, h2, h3⟩ := goes_store (P := P) hS hsz (trX_rep hR hx) (trX_rep hR hv) hst
    unfold Oper.wp
    have he : (execOp act.eval o).run P w = .ok .skip w' := by simp [execOp, hop, h1]
    rw [he]
    exact hn .top H' g' w' undef hk h2 h3 (.top _)
  · split at h <;> (try (cases h; done))
    rename_i e sz ps he hps
    split at h <;> (try (cases h; done))
    rename_i hc
    obtain ⟨c1, c2, c3, c4, c5⟩ := hc
    obtain rfl := Option.some.inj h
    have hreps := trXs_rep hR _ _ hps
    refine wp_of_goes (by simp only [execOp, hop] <;> rfl) (goes_lit (ps := ps.map (AX.ev a)) hS he (by simp [c1]) c5 c3 c4 (fun j p hj => ?_) ?_ (fun j p y hj hy => ?_) ?_ hk.2) hn
    · rw [Array.getElem?_map] at hj
      obtain ⟨p', hp', rfl⟩ := Option.map_eq_some_iff.1 hj
      have := litOk_spec _ 0 c2 j p' (by simpa using hp')
      simpa using this
    · have := hreps.1
      simp at this
      simp
      omega
    · rw [Array.getElem?_map] at hj
      obtain ⟨p', hp', rfl⟩ := Option.map_eq_some_iff.1 hj
      refine hreps.2 j _ y ?_ hy
      have h3 : ∀ l : List (Nat × Operand), (List.map act.eval (l.map (·.2))).toArray[j]? = (l[j]?).map (fun p => act.eval p.2) := by
        intro l; simp only [List.getElem?_toArray, List.getElem?_map, Option.map_map]; rfl
      rw [h3, Array.getElem?_toList, hp']
      rfl
    · intro p hp
      obtain ⟨q, hq, rfl⟩ := List.mem_map.1 hp
      exact hk.1 q hq
  · rename_i t n c
    split at h <;> (try (cases h; done))
    rename_i e sz n' _ he hn' hc'
    split at h <;> (try (cases h; done))
    rename_i b z hb hz
    split at h <;> (try (cases h; done))
    rename_i hc
    obtain ⟨c1, c2, c3, c4⟩ := hc
    obtain rfl := Option.some.inj h
    obtain ⟨m, hm, hmb, hk⟩ := hk
    have hr := trX_rep hR hn'
    rw [hm] at hr
    have hv := int_inv hr
    have hv2 : act.eval c = act.eval n := by
      unfold sameOp at c1
      split at c1 <;> simp_all [Act.eval]
    refine wp_of_goes (s := Instr.makeSlice t (.int .i64 m) (.int .i64 m)) ?_ (goes_mk hS he hb hz c2 c3 c4 hmb hk) hn
    simp only [execOp, hop, hv2, hv]
  · split at h <;> (try (cases h; done))
    rename_i e hs hd
    split at h <;> (try (cases h; done))
    rename_i he
    obtain ⟨x', hx, rfl⟩ := one h
    obtain ⟨s', hs', hl, hk⟩ := hk
    have hr := trX_rep hR hx
    rw [hs'] at hr
    have hv := str_inv hr
    refine wp_of_goes (s := convert _ _ (.string s')) ?_ (goes_s2b hS hs hd (isU8_spec he) hl hk) hn
    simp only [execOp, hop, hv] <;> rfl
  · rename_i args ts
    obtain ⟨args⟩ := args
    obtain ⟨ts⟩ := ts
    split at h <;> (try (cases h; done))
    rename_i x1 x2 t u hargs hts
    simp only at hargs hts
    subst hargs; subst hts
    split at h <;> (try (cases h; done))
    rename_i e sz op s' x' he h2
    obtain ⟨hs', hx'⟩ := two h2
    split at h <;> (try (cases h; done))
    rename_i b z hb hz
    split at h <;> (try (cases h; done))
    rename_i hc
    obtain ⟨c1, c2, c3, c4⟩ := hc
    obtain rfl := Option.some.inj h
    obtain ⟨y, H', hap, hk⟩ := hk
    obtain ⟨v, w', g', r1, r2, r3, r4⟩ := goes_app (P := P) (t := t) (u := u) (ty := o.type) hS he c1 hb hz c2 c3 c4 (trX_rep hR hs') (trX_rep hR hx') hap
    exact wp_of_goes (s := Builtin.append_ #[t, u] o.type #[act.eval x1, act.eval x2]) (by simp [execOp, hop, resolve, invoke, builtin]) ⟨v, w', g', y, H', r1, r2, r3, r4, hk⟩ hn
  · rename_i args ts
    obtain ⟨args⟩ := args
    obtain ⟨ts⟩ := ts
    split at h <;> (try (cases h; done))
    rename_i x1 x2 t u hargs hts
    simp only at hargs hts
    subst hargs; subst hts
    split at h <;> (try (cases h; done))
    rename_i e sz op s' x' he h2
    obtain ⟨hs', hx'⟩ := two h2
    obtain rfl := Option.some.inj h
    obtain ⟨y, H', hap, hk⟩ := hk
    obtain ⟨v, w', g', r1, r2, r3, r4⟩ := goes_copy (P := P) (t := t) (u := u) (ty := o.type) hS he (trX_rep hR hs') (trX_rep hR hx') hap
    exact wp_of_goes (s := Builtin.copy_ #[t, u] o.type #[act.eval x1, act.eval x2]) (by simp [execOp, hop, resolve, invoke, builtin]) ⟨v, w', g', y, H', r1, r2, r3, r4, hk⟩ hn
  · rename_i f args ts
    obtain ⟨args⟩ := args
    split at h <;> (try (cases h; done))
    rename_i as has
    simp only at has
    split at h <;> (try (cases h; done))
    · rename_i fid
      obtain rfl := Option.some.inj h
      have hreps := trXs_rep hR _ _ has
      have := hk g w _ hS hreps o act next Qc hn
      unfold Oper.wp
      have he : (execOp act.eval o).run P w = (callFunc fid (List.map act.eval args).toArray).run P w := by
        simp [execOp, hop, resolve, Deferred.ofValue, Act.eval, invoke]
      rw [he]
      exact this
    · obtain ⟨x', hx, rfl⟩ := one h
      have hreps := trXs_rep hR _ _ has
      have hr := trX_rep hR hx
      simp only [as_] at hk
      split at hk <;> (try (exact hk.elim))
      rename_i fid fs cs hv
      rw [hv] at hr
      obtain ⟨first, caps, hfv, hfr, hcr⟩ := hr.func_inv
      have hall : Reps g w (first ++ (List.map act.eval args).toArray ++ caps) (fs ++ as.map (AX.ev a) ++ cs) := by
        refine ⟨by rw [Array.size_append, Array.size_append, List.length_append, List.length_append, hfr.1, hcr.1, hreps.1], fun i v y h1 h2 => ?_⟩
        by_cases hi : i < fs.length
        · rw [List.append_assoc, List.getElem?_append_left hi] at h2
          rw [Array.append_assoc, Array.getElem?_append_left (by rw [hfr.1]; exact hi)] at h1
          exact hfr.2 i v y h1 h2
        · by_cases hi2 : i < fs.length + (as.map (AX.ev a)).length
          · rw [List.append_assoc, List.getElem?_append_right (by omega), List.getElem?_append_left (by omega)] at h2
            rw [Array.append_assoc, Array.getElem?_append_right (by rw [hfr.1]; omega), Array.getElem?_append_left (by rw [hfr.1, hreps.1]; omega), hfr.1] at h1
            exact hreps.2 _ v y h1 h2
          · rw [List.getElem?_append_right (by rw [List.length_append]; omega), List.length_append] at h2
            rw [Array.getElem?_append_right (by rw [Array.size_append, hfr.1, hreps.1]; omega), Array.size_append, hfr.1, hreps.1] at h1
            exact hcr.2 _ v y h1 h2
      have := hk g w _ hS hall o act next Qc hn
      unfold Oper.wp
      have he : (execOp act.eval o).run P w = (callFunc fid (first ++ (List.map act.eval args).toArray ++ caps)).run P w := by
        simp [execOp, hop, resolve, Deferred.ofValue, hfv, invoke]
      rw [he]
      exact this
  · rename_i t m k ok
    split at h <;> (try (cases h; done))
    rename_i str e hmap
    split at h <;> (try (cases h; done))
    rename_i z op m' k' hz h2
    obtain ⟨hm', hk'⟩ := two h2
    obtain rfl := Option.some.inj h
    obtain ⟨y, hy, hk⟩ := hk
    obtain ⟨v, hv, hr⟩ := goes_lookup hS hmap hz (trX_rep hR hm') (trX_rep hR hk') hy
    exact wp_of_goes (s := Instr.lookup t (act.eval m) (act.eval k) ok) (by simp only [execOp, hop] <;> rfl) ⟨v, w, g, y, H, hv, Ext.refl _ _, hS, hr, hk⟩ hn
  · rename_i ty
    obtain rfl := Option.some.inj h
    exact wp_of_goes (s := Instr.makeMap ty none) (by simp only [execOp, hop] <;> rfl) (goes_mkmap hS hk) hn
  · rename_i t x hi mx
    split at h <;> (try (cases h; done))
    rename_i e sz x' hi' mx' he hxs
    obtain rfl := Option.some.inj h
    obtain ⟨y, hy, hk⟩ := hk
    have hreps := trXs_rep hR _ _ hxs
    have r1 : Rep g w (act.eval x) (x'.ev a) := hreps.2 0 _ _ rfl rfl
    have r2 : Rep g w (act.eval hi) (hi'.ev a) := hreps.2 1 _ _ rfl rfl
    have r3 : Rep g w (act.eval mx) (mx'.ev a) := hreps.2 2 _ _ rfl rfl
    obtain ⟨v, hv, hr⟩ := run_slice3 (P := P) he r1 r2 r3 hy
    exact wp_of_goes (s := Instr.sliceAt t (act.eval x) none (some (act.eval hi)) (some (act.eval mx))) (by simp only [execOp, hop] <;> rfl) ⟨v, w, g, y, H, hv, Ext.refl _ _, hS, hr, hk⟩ hn
  · rename_i t m k v
    split at h <;> (try (cases h; done))
    rename_i str e m' k' v' hmap hxs
    obtain rfl := Option.some.inj h
    obtain ⟨H', hup, hk⟩ := hk
    have hreps := trXs_rep hR _ _ hxs
    have r1 : Rep g w (act.eval m) (m'.ev a) := hreps.2 0 _ _ rfl rfl
    have r2 : Rep g w (act.eval k) (k'.ev a) := hreps.2 1 _ _ rfl rfl
    have r3 : Rep g w (act.eval v) (v'.ev a) := hreps.2 2 _ _ rfl rfl
    obtain ⟨w', h1, h2, h3⟩ := goes_mapup (P := P) hS hmap r1 r2 r3 hup
    unfold Oper.wp
    have he : (execOp act.eval o).run P w = .ok .skip w' := by simp [execOp, hop, h1]
    rw [he]
    exact hn .top H' g w' undef hk h2 h3 (.top _)
theorem ACalls.mono {f : Nat} {args : List AV} {K K' : AV → AHeap → Prop} (h : ACalls P f args H K) (hk : ∀ y H', K y H' → K' y H') : ACalls P f args H K' :=
  fun g w vs hS hR o act next Qc hn => h g w vs hS hR o act next Qc (fun y H' g' w' v q => hn y H' g' w' v (hk _ _ q))
theorem aop_sound {o : Oper} {p : AOp} {K : AV → AHeap → Prop} {next : Act → World → Prop} {Qc : Exit → Act → World → Prop} (h : trOp P o.op = some p) (hS : Sim g w H) (hR : RepAct g w act a) (hk : aop (ACalls P) p a H K) (hn : Then g w K fun v w' => next (act.put o.dst v) w') : o.wp P act w next Qc := by
  unfold trOp at h
  split at h
  · rename_i q hq
    obtain rfl := Option.some.inj h
    obtain ⟨y, hy, hk⟩ := hk
    obtain ⟨v, hv, hr⟩ := aq_sound hq hS hR hy
    unfold Oper.wp
    rw [hv]
    exact hn y H g w v hk (Ext.refl _ _) hS hr
  · obtain ⟨s, hs, rfl⟩ := Option.map_eq_some_iff.1 h
    exact as_sound hs hS hR hk hn
/-- A guard's slot. -/
theorem guard_is {ops : Array Oper} {o : Oper} {gd : Option (Nat × Bool)} (hR : RepAct g w act a) (h : trGuard ops o.guard = some gd) :
    match gd with
    | none => Region.wanted o (yielded ops act.tmps) = true
    | some (t, want) => ∀ b, gdv (a.getD t .top) want = some b → Region.wanted o (yielded ops act.tmps) = b := by
  unfold trGuard at h
  split at h
  · rename_i hg
    obtain rfl := Option.some.inj h
    simp [Region.wanted, hg]
  · rename_i j want hg
    split at h <;> (try (cases h; done))
    rename_i t ht
    obtain rfl := Option.some.inj h
    intro b hb
    have hlt : t < a.length := by
      rcases Nat.lt_or_ge t a.length with h1 | h1
      · exact h1
      · rw [List.getD_eq_getElem?_getD, List.getElem?_eq_none h1] at hb
        simp [gdv] at hb
    have hg1 : a.getD t .top = a[t] := by
      rw [List.getD_eq_getElem?_getD, List.getElem?_eq_getElem hlt]
      rfl
    rw [hg1] at hb
    have hlt2 : t < act.tmps.size := by rw [hR.size]; exact hlt
    have hrep := hR.rep t act.tmps[t] _ (Array.getElem?_eq_getElem hlt2) (List.getElem?_eq_getElem hlt)
    have hyl : yielded ops act.tmps j = match act.tmps[t] with
      | .bool b => some b
      | _ => none := by
      unfold yielded
      rw [ht]
      simp only [Option.bind_some]
      rw [Array.getElem?_eq_getElem hlt2]
      cases act.tmps[t] <;> rfl
    simp only [Region.wanted, hg, hyl]
    unfold gdv at hb
    split at hb <;> (try (cases hb; done))
    · rename_i b2 hb2
      obtain rfl := Option.some.inj hb
      rw [hb2] at hrep
      rw [bool_inv hrep]
      cases b2 <;> cases want <;> rfl
    · rename_i hb2
      obtain rfl := Option.some.inj hb
      rw [hb2] at hrep
      obtain ⟨vs, hv, hsz, _⟩ := hrep.tup_inv
      rw [hv]
      rfl
theorem aopW_sound {W : List Nat} {o : Oper} {p : AOp} {K : AV → AHeap → Prop} {next : Act → World → Prop} {Qc : Exit → Act → World → Prop} (h : trOpW P W o = some p) (hS : Sim g w H) (hR : RepAct g w act a) (hk : aop (ACalls P) p a H K) (hn : Then g w K fun v w' => next (act.put o.dst v) w') : o.wp P act w next Qc := by
  unfold trOpW at h
  split at h
  · unfold trLit at h
    split at h <;> rename_i hop <;> (try (cases h; done))
    split at h <;> (try (cases h; done))
    rename_i e sz ps he hps
    split at h <;> (try (cases h; done))
    rename_i hc
    obtain ⟨c1, c2, c3, c4, c5⟩ := hc
    obtain rfl := Option.some.inj h
    have hreps := trXs_rep hR _ _ hps
    have hk' : (∀ p ∈ ps, (AX.ev a p).flat = true ∧ (AX.ev a p).cells.length = sz) ∧ K (.wr H.next 0 0 ps.length sz) (H.push (.row e 0 ((ps.map (AX.ev a)).flatMap AV.cells))) := hk
    refine wp_of_goes (by simp only [execOp, hop] <;> rfl) (goes_litw (ps := ps.map (AX.ev a)) hS he (by simp [c1]) c5 c3 c4 (fun j p hj => ?_) ?_ (fun j p y hj hy => ?_) ?_ (by rw [List.length_map]; exact hk'.2)) hn
    · rw [Array.getElem?_map] at hj
      obtain ⟨p', hp', rfl⟩ := Option.map_eq_some_iff.1 hj
      have := litOk_spec _ 0 c2 j p' (by simpa using hp')
      simpa using this
    · have := hreps.1
      simp at this
      simp
      omega
    · rw [Array.getElem?_map] at hj
      obtain ⟨p', hp', rfl⟩ := Option.map_eq_some_iff.1 hj
      refine hreps.2 j _ y ?_ hy
      have h3 : ∀ l : List (Nat × Operand), (List.map act.eval (l.map (·.2))).toArray[j]? = (l[j]?).map (fun p => act.eval p.2) := by
        intro l; simp only [List.getElem?_toArray, List.getElem?_map, Option.map_map]; rfl
      rw [h3, Array.getElem?_toList, hp']
      rfl
    · intro p hp
      obtain ⟨q, hq, rfl⟩ := List.mem_map.1 hp
      exact hk'.1 q hq
  · exact aop_sound h hS hR hk hn
theorem aopT_sound {W : List Nat} {o : Oper} {K : AV → AHeap → Prop} {next : Act → World → Prop} {Qc : Exit → Act → World → Prop} (hS : Sim g w H) (hR : RepAct g w act a) (hk : aop (ACalls P) (trOpT P W o) a H K) (hn : Then g w K fun v w' => next (act.put o.dst v) w') : o.wp P act w next Qc := by
  unfold trOpT at hk
  cases h : trOpW P W o with
  | some p => rw [h] at hk; exact aopW_sound h hS hR hk hn
  | none => rw [h] at hk; exact hk.elim
theorem put_other (act : Act) (d : Option Nat) (v : Value) : ∀ i, d ≠ some i → (act.put d v).tmps[i]? = act.tmps[i]? := by
  intro i hi
  cases d with
  | none => rfl
  | some d =>
    simp only [Act.put]
    exact Array.getElem?_setIfInBounds_ne (fun e => hi (by rw [e]))
theorem astep_sound {W : List Nat} {ops : Array Oper} {o : Oper} {ao : AOper} {K : List AV → AHeap → Prop} {next : Act → World → Prop} {Qc : Exit → Act → World → Prop} (h : trOper P W ops o = some ao) (hS : Sim g w H) (hR : RepAct g w act a) (hk : astep (ACalls P) ao a H K)
    (hn : ∀ a' H' g' w' act', K a' H' → Ext g w g' w' → Sim g' w' H' → RepAct g' w' act' a' → (∀ i, o.dst ≠ some i → act'.tmps[i]? = act.tmps[i]?) → next act' w') :
    if Region.wanted o (yielded ops act.tmps) then o.wp P act w next Qc ∨ (o.asks P act w ∧ LetsOut Qc) else next (act.put o.dst undef) w := by
  obtain ⟨gd, hg, rfl⟩ := Option.map_eq_some_iff.1 h
  have hgd := guard_is (act := act) hR hg
  have hT : Then g w (fun y H' => K (aput a o.dst y) H') fun v w' => next (act.put o.dst v) w' :=
    fun y H' g' w' v q hE hS' hr => hn _ _ g' w' _ q hE hS' (hR.put hE hr o.dst) (put_other _ _ _)
  unfold astep at hk
  cases gd with
  | none =>
    simp only at hgd hk
    rw [hgd, if_pos rfl]
    exact .inl (aopT_sound hS hR hk hT)
  | some x =>
    obtain ⟨t, want⟩ := x
    simp only at hgd hk
    split at hk <;> (try (exact hk.elim))
    rename_i b hb
    rw [hgd b hb]
    cases hbw : b with
    | true =>
      rw [if_pos rfl]
      rw [hbw] at hk
      left
      refine aopT_sound (W := W) hS hR ?_ hT
      generalize trOpT P W o = p at hk ⊢
      cases p with
      | q q =>
        simp only [agop, if_true] at hk
        obtain ⟨h1, h2⟩ := hk
        obtain ⟨y, hy⟩ := Option.isSome_iff_exists.1 (h1 trivial)
        rw [hy] at h2
        exact ⟨y, hy, h2⟩
      | s s => exact hk
      | c f args =>
        obtain ⟨y, h1, h2⟩ := hk
        exact ⟨y, h1 rfl, h2⟩
    | false =>
      rw [if_neg (by simp)]
      rw [hbw] at hk
      have hk2 : K (aput a o.dst (.tup [])) H := by
        generalize trOpT P W o = p at hk
        cases p with
        | q q => exact hk.2
        | s s => exact hk
        | c f args => obtain ⟨y, h1, h2⟩ := hk; exact h2
      exact hn _ _ g w _ hk2 (Ext.refl _ _) hS (hR.put (Ext.refl _ _) (.tup #[] [] rfl (fun i v y h _ => by simp at h)) o.dst) (put_other _ _ _)
theorem trOpers_get {W : List Nat} {ops : Array Oper} : ∀ (l : List Oper) (al : List AOper), trOpers P W ops l = some al → l.length = al.length ∧ ∀ (i : Nat) (o : Oper), l[i]? = some o → ∃ ao, al[i]? = some ao ∧ trOper P W ops o = some ao
  | [], al, h => by
    obtain rfl := Option.some.inj h
    exact ⟨rfl, fun i o h => by simp at h⟩
  | o :: l, al, h => by
    simp only [trOpers] at h
    split at h <;> (try (cases h; done))
    rename_i x r hx hr
    obtain rfl := Option.some.inj h
    have ih := trOpers_get l r hr
    refine ⟨by simp [ih.1], fun i o' ho => ?_⟩
    cases i with
    | zero => simp at ho; subst ho; exact ⟨x, rfl, hx⟩
    | succ i => exact ih.2 i o' (by simpa using ho)
/-- A region in the text's order. -/
theorem aops_sound {W : List Nat} {ops : Array Oper} {Q : List AV → AHeap → Prop} {Qc : Exit → Act → World → Prop} : ∀ (al : List AOper) (k : Nat) (g : Ghost) (w : World) (H : AHeap) (act : Act) (a : List AV),
    (∀ (i : Nat) (ao : AOper), al[i]? = some ao → ∃ o, ops[k + i]? = some o ∧ trOper P W ops o = some ao) → Sim g w H → RepAct g w act a → aops (ACalls P) al a H Q →
    (∀ a' H' g' w' act', Q a' H' → Ext g w g' w' → Sim g' w' H' → RepAct g' w' act' a' → Qc .normal act' w') → wpOps P ops Qc (List.range' k al.length) act w
  | [], k, g, w, H, act, a, _, hS, hR, hk, hn => hn a H g w act hk (Ext.refl _ _) hS hR
  | ao :: al, k, g, w, H, act, a, hal, hS, hR, hk, hn => by
    obtain ⟨o, ho, htr⟩ := hal 0 ao rfl
    rw [Nat.add_zero] at ho
    simp only [List.length_cons, List.range'_succ]
    rw [wpOps_cons]
    unfold wpOp
    rw [ho]
    simp only [aops] at hk
    exact astep_sound htr hS hR hk (fun a' H' g' w' act' q hE hS' hR' _ => aops_sound al (k + 1) g' w' H' act' a' (fun i ao' hi => by
      have := hal (i + 1) ao' (by simpa using hi)
      rw [show k + 1 + i = k + (i + 1) by omega]
      exact this) hS' hR' q (fun a2 H2 g2 w2 act2 q2 hE2 => hn a2 H2 g2 w2 act2 q2 (hE.trans hE2)))
end
end Go.Proofs.Ytblflecalomgfaa.AL
