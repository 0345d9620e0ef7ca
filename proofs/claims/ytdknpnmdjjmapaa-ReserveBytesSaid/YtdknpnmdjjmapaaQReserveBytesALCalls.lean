/- The kit's own contracts as told calls. -/
import Derived.Test.YtdknpnmdjjmapaaQReserveBytesALA4
set_option linter.unusedVariables false
set_option linter.unusedSimpArgs false
namespace Go.Proofs.Ytdknpnmdjjmapaa.AL
open Go Go.RowKit
theorem acalls_calls {P : Program} {f n : Nat} {ac : ACode} {rs : List RV} (hT : Told P f n ac rs) {args : List AV} {H : AHeap} {K : AV → AHeap → Prop}
    (h : ∀ g w vs, Sim g w H → Reps g w vs args → Calls P f vs w (fun e w' => ∃ v y H' g', e = .returned v ∧ K y H' ∧ Ext g w g' w' ∧ Sim g' w' H' ∧ Rep g' w' v y)) : ACalls P f args H K := by
  obtain ⟨fn, c, W, hf, hb, hname, _⟩ := hT.tell
  intro g w vs hS hR o act next Qc hn
  have hrun : (callFunc f vs).run P w = .ok (.enter f vs) w := by
    simp only [callFunc, Sem.run_bind, run_program, Result.andThen_ok, hf, hname, hb, Option.isNone_some, Bool.false_eq_true, if_false, Sem.run_pure]
  rw [hrun, Oper.upon_enter]
  refine (h g w vs hS hR).mono (fun e w' he => ?_)
  obtain ⟨v, y, H', g', rfl, hk, hE, hS', hr⟩ := he
  exact hn y H' g' w' v hk hE hS' hr
theorem sim_below {g : Ghost} {w w' : World} {H : AHeap} (hS : Sim g w H) (hb : Below w.heap.size w w') : Ext g w g w' ∧ Sim g w' H := by
  obtain ⟨h1, h2, h3, h4, h5⟩ := hb
  have hE : Ext g w g w' := ⟨fun _ _ _ h => h, fun _ h => h, fun b hb => h5 b (hS.zlt b hb), fun b s h => by
    have hl : b < w.heap.size := by
      rcases Nat.lt_or_ge b w.heap.size with q | q
      · exact q
      · unfold World.shape? at h
        rw [Array.getElem?_eq_none q] at h
        cases h
    unfold World.shape? at h ⊢
    rw [h5 b hl]
    exact h, h4, h1, h2, h3, fun _ _ h => h, fun b hb _ => h5 b hb⟩
  exact ⟨hE, ⟨fun b hb => Nat.lt_of_lt_of_le (hS.zlt b hb) h4, fun i k b hb => ⟨(hS.mlt i k b hb).1, Nat.lt_of_lt_of_le (hS.mlt i k b hb).2 h4⟩, fun i o ho => (hS.live i o ho).ext hE (fun b hb => h5 b (hS.mlt _ _ _ hb).2), hS.inj, hS.nz, hS.gen, hS.var.ext hE⟩⟩
end Go.Proofs.Ytdknpnmdjjmapaa.AL

