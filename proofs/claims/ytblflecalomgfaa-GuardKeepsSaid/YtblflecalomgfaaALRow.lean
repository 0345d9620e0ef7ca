/- From told calls to the machine's. -/
import Derived.Test.YtblflecalomgfaaAL15
set_option linter.unusedVariables false
set_option linter.unusedSimpArgs false
namespace Go.Proofs.Ytblflecalomgfaa.AL
open Go Go.RowKit
/-- Nobody writes to what is there already. -/
def g0 (w : World) : Ghost := ⟨fun _ _ => none, fun b => b < w.heap.size⟩
def H0 : AHeap := ⟨0, fun _ => none, fun _ _ => rfl⟩
theorem sim0 (w : World) : Sim (g0 w) w H0 :=
  ⟨(fun b h => h), (fun id gen b h => by cases h), (fun id o h => by cases h), (fun id id' o o' b h => by cases h), (fun id o b h => by cases h), (fun id o gen b h => by cases h)⟩
theorem ext_below {w w' : World} {g' : Ghost} (h : Ext (g0 w) w g' w') : Below w.heap.size w w' := ⟨h.os, h.tape, h.output, h.size, fun k hk => h.same k hk⟩
theorem calls_at {P : Program} {f : Nat} {n : Nat} {ac : ACode} {rs : List RV} (hT : Told P f n ac rs) {args : List AV} {K : AV → AHeap → Prop} {w : World} {vs : Array Value} (h : ACalls P f args H0 K) (hR : Reps (g0 w) w vs args) :
    Calls P f vs w fun e w' => ∃ v y H' g', e = .returned v ∧ K y H' ∧ Rep g' w' v y ∧ Below w.heap.size w w' := by
  obtain ⟨fn, c, W, hf, hb, hname, _⟩ := hT.tell
  have hrun : (callFunc f vs).run P w = .ok (.enter f vs) w := by
    simp only [callFunc, Sem.run_bind, run_program, Result.andThen_ok, hf, hname, hb, Option.isNone_some, Bool.false_eq_true, if_false, Sem.run_pure]
  let o : Oper := { (default : Oper) with dst := some 0 }
  have := h (g0 w) w vs (sim0 w) hR o ⟨#[undef], []⟩ (fun a w' => ∃ y H' g', K y H' ∧ Rep g' w' (a.tmps.getD 0 undef) y ∧ Below w.heap.size w w') (fun _ _ _ => False) (fun y H' g' w' v hk hE hS hr => ⟨y, H', g', hk, by simpa [Act.put, o] using hr, ext_below hE⟩)
  rw [hrun, Oper.upon_enter] at this
  refine this.mono (fun e w' he => ?_)
  cases e with
  | returned v =>
    obtain ⟨y, H', g', h1, h2, h3⟩ := he
    exact ⟨v, y, H', g', rfl, h1, by simpa [Act.put, o] using h2, h3⟩
  | panicked ch => exact he.elim
  | outgrown => obtain ⟨_, _, h⟩ := he; exact h.elim
theorem calls_true {P : Program} {f : Nat} {n : Nat} {ac : ACode} {rs : List RV} (hT : Told P f n ac rs) {args : List AV} {w : World} {vs : Array Value} (h : ACalls P f args H0 (fun y _ => y = .bool true)) (hR : Reps (g0 w) w vs args) :
    Calls P f vs w fun e w' => e = .returned (.bool true) ∧ Below w.heap.size w w' := by
  refine (calls_at hT h hR).mono (fun e w' he => ?_)
  obtain ⟨v, y, H', g', rfl, rfl, h2, h3⟩ := he
  exact ⟨by rw [bool_inv h2], h3⟩
theorem reps_nil {g : Ghost} {w : World} : Reps g w #[] [] := ⟨rfl, fun i v y h => by simp at h⟩
theorem reps_cons {g : Ghost} {w : World} {v : Value} {y : AV} {vs : List Value} {ys : List AV} (h : Rep g w v y) (h2 : Reps g w vs.toArray ys) : Reps g w (v :: vs).toArray (y :: ys) := by
  refine ⟨by simpa using h2.1, fun i u z hu hz => ?_⟩
  cases i with
  | zero => simp at hu hz; subst hu; subst hz; exact h
  | succ i => exact h2.2 i u z (by simpa using hu) (by simpa using hz)
end Go.Proofs.Ytblflecalomgfaa.AL
