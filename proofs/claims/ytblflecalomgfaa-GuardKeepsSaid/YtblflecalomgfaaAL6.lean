/- The quiet operations, all of them: what they answer, and that the machine's operations answer so. -/
import Derived.Test.YtblflecalomgfaaAL5
set_option linter.unusedVariables false
set_option linter.unusedSimpArgs false
namespace Go.Proofs.Ytblflecalomgfaa.AL
open Go
/-- The kinds of types of which values are held against nil. -/
inductive NK where
  | ptr | sl | map | func | iface
  deriving DecidableEq, Inhabited
def nilOf : NK → AV → Option Bool
  | .ptr, .nilp => some true
  | .ptr, .ptr _ _ _ => some false
  | .ptr, .rd _ => some false
  | .sl, .nils => some true
  | .sl, .imm _ _ => some false
  | .sl, .wr _ _ _ _ _ => some false
  | .sl, .emp => some false
  | .map, .nilm => some true
  | .map, .map _ => some false
  | .func, .nilf => some true
  | .func, .func _ _ _ => some false
  | .iface, .nili => some true
  | .iface, .iface _ _ => some false
  | _, _ => none
def anil (k : NK) (x y : AV) : Option Bool :=
  match nilOf k x, nilOf k y with
  | some true, some b => some b
  | some false, some true => some false
  | _, _ => none
section
variable {P : Program} {g : Ghost} {w : World}
def tNil (P : Program) (t : TypeId) : Option NK :=
  match P.underlying t with
  | some (.pointer _) => some .ptr
  | some (.slice _) => some .sl
  | some (.map _ _) => some .map
  | some (.func _ _ _) => some .func
  | some (.interface _) => some .iface
  | _ => none
def isC : Operand → Bool
  | .const _ => true
  | _ => false
theorem equal_step (t : TypeId) (u v : Value) : Op.equal t u v = Op.equalIn (9999 + 1) t u v := rfl
theorem run_nil_equalIn (d : Nat) {t : TypeId} {k : NK} {u v : Value} {x y : AV} {b : Bool} (ht : tNil P t = some k) (hx : Rep g w u x) (hy : Rep g w v y) (h : anil k x y = some b) : (Op.equalIn (d + 1) t u v).run P w = .ok b w := by
  unfold tNil at ht
  unfold anil at h
  split at ht <;> rename_i hu <;> (try (cases ht; done)) <;> obtain rfl := Option.some.inj ht
  all_goals
    cases x <;> simp only [nilOf] at h <;> (try (cases h; done)) <;> cases y <;> simp only [nilOf] at h <;> (try (cases h; done)) <;> (obtain rfl := Option.some.inj h) <;> cases hx <;> cases hy <;>
      (refine (Sem.run_bind' P (underlying t) _ w).trans ?_; rw [run_underlying hu]; rfl)
theorem run_nil_equal {t : TypeId} {k : NK} {u v : Value} {x y : AV} {b : Bool} (ht : tNil P t = some k) (hx : Rep g w u x) (hy : Rep g w v y) (h : anil k x y = some b) : (Op.equal t u v).run P w = .ok b w := run_nil_equalIn 9999 ht hx hy h
theorem run_nil_guard {k : NK} {t : TypeId} {u v : Value} {x y : AV} {b : Bool} (hx : Rep g w u x) (hy : Rep g w v y) (h : anil k x y = some b) (op : BinOp) (o1 o2 : Operand) (hc : isC o1 = true ∨ isC o2 = true) : (eqGuard op t o1 o2 u v).run P w = .ok () w := by
  unfold anil at h
  cases k <;> cases x <;> simp only [nilOf] at h <;> (try (cases h; done)) <;> cases y <;> simp only [nilOf] at h <;> (try (cases h; done)) <;> cases hx <;> cases hy <;>
    (first
      | (simp only [eqGuard_at_pointer, eqGuard_at_slice, eqGuard_at_map, eqGuard_at_func, eqGuard_at_nilFunc, eqGuard_at_iface, eqGuard_nil_iface]; rfl)
      | (rcases hc with hc | hc
         · cases o1 <;> simp [isC] at hc
           rw [eqGuard_nil_constL]; rfl
         · cases o2 <;> simp [isC] at hc
           rw [eqGuard_nil_constR]; rfl))
theorem nil_binOp {k : NK} {t : TypeId} {u v : Value} {x y : AV} {b : Bool} (hx : Rep g w u x) (hy : Rep g w v y) (h : anil k x y = some b) :
    binOp .eql t u v = (do pure (.bool (← Op.equal t u v)) : Sem Value) ∧ binOp .neq t u v = (do pure (.bool (!(← Op.equal t u v))) : Sem Value) := by
  unfold anil at h
  cases k <;> cases x <;> simp only [nilOf] at h <;> (try (cases h; done)) <;> cases y <;> simp only [nilOf] at h <;> (try (cases h; done)) <;> cases hx <;> cases hy <;> exact ⟨rfl, rfl⟩
theorem run_anil {t : TypeId} {k : NK} {u v : Value} {x y : AV} {b : Bool} (ht : tNil P t = some k) (hx : Rep g w u x) (hy : Rep g w v y) (h : anil k x y = some b) (o1 o2 : Operand) (hc : isC o1 = true ∨ isC o2 = true) :
    (do eqGuard .eql t o1 o2 u v; binOp .eql t u v : Sem Value).run P w = .ok (.bool b) w ∧ (do eqGuard .neq t o1 o2 u v; binOp .neq t u v : Sem Value).run P w = .ok (.bool !b) w := by
  obtain ⟨e1, e2⟩ := nil_binOp (t := t) hx hy h
  rw [e1, e2]
  simp only [Sem.run_bind, run_nil_guard hx hy h _ o1 o2 hc, Result.andThen_ok, run_nil_equal ht hx hy h, Sem.run_pure]
  exact ⟨trivial, trivial⟩
theorem run_aun {u : Value} {x y : AV} {op : UnOp} (hx : Rep g w u x) (h : aun op x = some y) : ∃ v, (Op.unary op u).run P w = .ok v w ∧ Rep g w v y := by
  unfold aun at h
  split at h <;> (try (cases h; done))
  · split at h <;> (try (cases h; done)) <;> (obtain rfl := Option.some.inj h) <;> cases hx
    · exact ⟨_, by simp [Op.unary, Op.intArith], .int _ _⟩
    · exact ⟨_, by simp [Op.unary, intBits_xor], .int _ _⟩
  · split at h <;> (try (cases h; done)) <;> (obtain rfl := Option.some.inj h) <;> cases hx
    exact ⟨_, by simp [Op.unary], .bool _⟩
theorem run_abest {u v : Value} {x y z : AV} (hx : Rep g w u x) (hy : Rep g w v y) (mx : Bool) (h : abest mx x y = some z) (ts : Array TypeId) (t : TypeId) :
    ∃ r, ((if mx then Builtin.max_ ts t #[u, v] else Builtin.min_ ts t #[u, v]) : Sem Value).run P w = .ok r w ∧ Rep g w r z := by
  unfold abest at h
  split at h <;> (try (cases h; done))
  obtain rfl := Option.some.inj h
  cases hx; cases hy
  cases mx
  · exact ⟨_, by simp [Builtin.min_, Builtin.min2], .int _ _⟩
  · exact ⟨_, by simp [Builtin.max_, Builtin.max2], .int _ _⟩
/-! ### composites built -/
theorem foldl_sets (off : Nat) : ∀ (l : List Value) (s : Nat) (cs : Array Value),
    ((l.zipIdx s).foldl (fun cs p => cs.setIfInBounds (off + p.2) p.1) cs).size = cs.size ∧
    ∀ k : Nat, ((l.zipIdx s).foldl (fun cs p => cs.setIfInBounds (off + p.2) p.1) cs)[k]? = if off + s ≤ k ∧ k < off + s + l.length ∧ k < cs.size then l[k - (off + s)]? else cs[k]?
  | [], s, cs => ⟨rfl, fun k => by rw [if_neg (by simp; omega)]; rfl⟩
  | v :: l, s, cs => by
    obtain ⟨h1, h2⟩ := foldl_sets off l (s + 1) (cs.setIfInBounds (off + s) v)
    simp only [List.zipIdx_cons, List.foldl_cons]
    refine ⟨by rw [h1]; simp, fun k => ?_⟩
    rw [h2 k]
    simp only [Array.size_setIfInBounds, List.length_cons]
    by_cases hk : off + s = k
    · subst hk
      rw [if_neg (by omega)]
      by_cases hlt : off + s < cs.size
      · rw [if_pos ⟨by omega, by omega, hlt⟩, Array.getElem?_setIfInBounds_self_of_lt hlt]
        simp
      · rw [if_neg (by omega)]
        simp [Array.getElem?_eq_none (Nat.le_of_not_lt hlt), Array.setIfInBounds, hlt]
    · by_cases hc : off + (s + 1) ≤ k ∧ k < off + (s + 1) + l.length ∧ k < cs.size
      · rw [if_pos hc, if_pos ⟨by omega, by omega, hc.2.2⟩]
        rw [show k - (off + s) = (k - (off + (s + 1))) + 1 by omega]
        rfl
      · rw [if_neg hc, if_neg (by omega), Array.getElem?_setIfInBounds_ne hk]
theorem fill_rep (place : Nat → Option (Nat × Nat)) : ∀ (l : List (Nat × Value)) (as : List (Nat × Nat × AV)) (cells : Array Value) (acells res : List AV),
    l.length = as.length → (∀ (j : Nat) (p : Nat × Value) (q : Nat × Nat × AV), l[j]? = some p → as[j]? = some q → place p.1 = some (q.1, q.2.1) ∧ Rep g w p.2 q.2.2) →
    Reps g w cells acells → afill acells as = some res → ∃ cells', Instr.fill place cells l = some cells' ∧ Reps g w cells' res
  | [], [], cells, acells, res, _, _, hr, h => by
    obtain rfl := Option.some.inj h
    exact ⟨cells, rfl, hr⟩
  | [], q :: as, _, _, _, hl, _, _, _ => by simp at hl
  | p :: l, [], _, _, _, hl, _, _, _ => by simp at hl
  | (i, v) :: l, (off, n, x) :: as, cells, acells, res, hl, hp, hr, h => by
    obtain ⟨hp1, hp2⟩ := hp 0 _ _ rfl rfl
    simp only at hp1 hp2
    simp only [afill] at h
    split at h <;> (try (cases h; done))
    rename_i hc
    obtain ⟨hfl, hn, hle⟩ := hc
    have hxt : x ≠ .top := by intro e; subst e; simp [AV.flat, AV.one] at hfl
    have hcs := hp2.cells hxt
    have hvs : v.cells.size = n := by rw [hcs.1, hn]
    have hsz : cells.size = acells.length := hr.1
    have hbad : ¬ (v.cells.size ≠ n ∨ off + v.cells.size > cells.size) := by omega
    have hbad' : (decide (v.cells.size ≠ n) || decide (off + v.cells.size > cells.size)) = false := by simpa using hbad
    simp only [Instr.fill, hp1]
    have hf := foldl_sets off v.cells.toList 0 cells
    have hfe : v.cells.zipIdx.foldl (fun cs (c, j) => cs.setIfInBounds (off + j) c) cells = (v.cells.toList.zipIdx 0).foldl (fun cs p => cs.setIfInBounds (off + p.2) p.1) cells := by
      rw [← Array.foldl_toList]
      simp
    rw [hfe]
    generalize (v.cells.toList.zipIdx 0).foldl (fun cs p => cs.setIfInBounds (off + p.2) p.1) cells = cells1 at hf
    have hr1 : Reps g w cells1 (acells.take off ++ x.cells ++ acells.drop (off + n)) := by
      refine ⟨by rw [hf.1]; simp; omega, fun k u y hu hy => ?_⟩
      rw [hf.2 k] at hu
      simp only [Array.length_toList, Nat.add_zero] at hu
      by_cases hk : off ≤ k ∧ k < off + n
      · rw [if_pos ⟨hk.1, by omega, by omega⟩] at hu
        have hy2 : x.cells[k - off]? = some y := by
          rw [List.append_assoc, List.getElem?_append_right (by simp; omega), List.getElem?_append_left (by simp; omega)] at hy
          simpa [Nat.min_eq_left (show off ≤ acells.length by omega)] using hy
        exact hcs.2 (k - off) u y (by simpa using hu) hy2
      · rw [if_neg (by omega)] at hu
        refine hr.2 k u y hu ?_
        by_cases hk2 : k < off
        · rw [List.append_assoc, List.getElem?_append_left (by simp; omega), List.getElem?_take, if_pos hk2] at hy
          exact hy
        · rw [List.getElem?_append_right (by simp; omega), List.getElem?_drop] at hy
          rw [← hy]
          congr 1
          simp
          omega
    have hif : (if v.cells.size ≠ n ∨ off + v.cells.size > cells.size then none else Instr.fill place cells1 l) = Instr.fill place cells1 l := if_neg hbad
    obtain ⟨cells2, h1, h2⟩ := fill_rep place l as cells1 _ res (by simpa using hl) (fun j p q h1 h2 => hp (j + 1) p q h1 h2) hr1 h
    refine ⟨cells2, ?_, h2⟩
    rw [← h1]
    simpa using hif
def tBuild (P : Program) (t : TypeId) : Option (List AV × (Nat → Option (Nat × Nat))) :=
  match P.info? t, P.underlying t with
  | some it, some (.array _ e) =>
    match it.zero, P.info? e with
    | some z, some ie => (z.cells.toList.mapM trV).map fun zs => (zs, fun i => some (i * ie.size, ie.size))
    | _, _ => none
  | some it, some (.struct fields) =>
    match it.zero, fields.toList.mapM (fun f => (P.info? f.type).map fun i => (f.offset, i.size)) with
    | some z, some places => (z.cells.toList.mapM trV).map fun zs => (zs, fun i => places.toArray[i]?)
    | _, _ => none
  | _, _ => none
theorem trV_reps : ∀ (l : List Value) (ys : List AV), l.mapM trV = some ys → Reps g w l.toArray ys := by
  intro l
  induction l with
  | nil => intro ys h; simp at h; subst h; exact ⟨rfl, fun i v y h => by simp at h⟩
  | cons v l ih =>
    intro ys h
    simp only [List.mapM_cons, Option.bind_eq_bind, Option.bind_eq_some_iff, Option.pure_def, Option.some.injEq] at h
    obtain ⟨y, hy, ys', hys, rfl⟩ := h
    have := ih _ hys
    refine ⟨by simpa using this.1, fun i u z hu hz => ?_⟩
    cases i with
    | zero => simp at hu hz; subst hu; subst hz; exact trV_rep hy
    | succ i => exact this.2 i u z (by simpa using hu) (by simpa using hz)
theorem run_tbuild {t : TypeId} {zs res : List AV} {place : Nat → Option (Nat × Nat)} (ht : tBuild P t = some (zs, place)) (parts : Array (Nat × Value)) (as : List (Nat × Nat × AV)) (hl : parts.size = as.length)
    (hp : ∀ (j : Nat) (p : Nat × Value) (q : Nat × Nat × AV), parts[j]? = some p → as[j]? = some q → place p.1 = some (q.1, q.2.1) ∧ Rep g w p.2 q.2.2) (h : afill zs as = some res) :
    ∃ v, (Instr.build t parts).run P w = .ok v w ∧ Rep g w v (.agg res) := by
  have key : ∀ z : Value, z.cells.toList.mapM trV = some zs → ∃ cells', Instr.fill place z.cells parts.toList = some cells' ∧ Reps g w cells' res := by
    intro z hz
    have h0 : Reps g w z.cells zs := by simpa using trV_reps (g := g) (w := w) _ _ hz
    exact fill_rep place parts.toList as z.cells zs res (by simpa using hl) (fun j p q h1 h2 => hp j p q (by simpa using h1) h2) h0 h
  unfold tBuild at ht
  split at ht <;> (try (cases ht; done))
  · rename_i it n e hi hu
    split at ht <;> (try (cases ht; done))
    rename_i z ie hz hie
    obtain ⟨zs', hzs, he⟩ := Option.map_eq_some_iff.1 ht
    simp only [Prod.mk.injEq] at he
    obtain ⟨rfl, rfl⟩ := he
    obtain ⟨cells', h1, h2⟩ := key z hzs
    refine ⟨_, run_build w t parts cells' ?_, .agg _ _ h2.1 h2.2⟩
    simp [Program.built, hi, hu, hz, hie, h1]
  · rename_i it fields hi hu
    split at ht <;> (try (cases ht; done))
    rename_i z places hz hpl
    obtain ⟨zs', hzs, he⟩ := Option.map_eq_some_iff.1 ht
    simp only [Prod.mk.injEq] at he
    obtain ⟨rfl, rfl⟩ := he
    obtain ⟨cells', h1, h2⟩ := key z hzs
    refine ⟨_, run_build w t parts cells' ?_, .agg _ _ h2.1 h2.2⟩
    simp only [Program.built, hi, hu, hz, hpl]
    exact h1
end
end Go.Proofs.Ytblflecalomgfaa.AL
