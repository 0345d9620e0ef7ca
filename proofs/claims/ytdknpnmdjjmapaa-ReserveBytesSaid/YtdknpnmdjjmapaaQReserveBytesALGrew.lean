/- Slices that grow in others' hands, too. -/
import Derived.Test.YtdknpnmdjjmapaaQReserveBytesALA4
set_option linter.unusedSimpArgs false
set_option linter.unusedVariables false
set_option maxRecDepth 100000
set_option maxHeartbeats 16000000
namespace Go.Proofs.Ytdknpnmdjjmapaa.AL
open Go Go.Proofs
/-- From (v, H) to (v', G): a slice's row has grown, and all else is as it was. -/
structure Grew (n0 : Nat) (v : AV) (H : AHeap) (v' : AV) (G : AHeap) : Prop where
  next : H.next ≤ G.next
  old : ∀ i, i < n0 → G.get i = H.get i
  other : ∀ i o, H.get i = some o → (∀ gen off len sz, v ≠ .wr i gen off len sz) → G.get i = some o
  id : ∀ j, j < H.next → (∀ gen off len sz, v ≠ .wr j gen off len sz) → ∀ gen off len sz, v' ≠ .wr j gen off len sz
/-- A call is handed a slice of one's own that nobody writes to any more. -/
theorem acalls_shut {P : Program} {f : Nat} {pre post : List AV} {y z : AV} {H H2 : AHeap} {K : AV → AHeap → Prop} (hS : Shut H y H2 z) (h : (ACalls P) f (pre ++ z :: post) H2 K) : (ACalls P) f (pre ++ y :: post) H K := by
  intro g w vs hSim hR o act next Qc hn
  obtain ⟨u, hu, hrep⟩ := Reps.get hR (i := pre.length) (y := y) (by simp)
  obtain ⟨g', hE, hS', hr'⟩ := hS.sound hSim hrep
  have hR2 := Reps.replace hE hR (fun v hv => by rw [hu] at hv; obtain rfl := Option.some.inj hv; exact hr')
  exact h g' w vs hS' hR2 o act next Qc (fun y' H' g2 w2 v hk hE2 => hn y' H' g2 w2 v hk (hE.trans hE2))
theorem slat_shut2 {n0 : Nat} {G : AHeap} {e sz : Nat} {v : AV} {xs : List AV} (h : SlAt n0 G e sz v xs) (hx : ∀ x ∈ xs, x.cells.length = sz) : ∃ G2 k, Shut G v G2 (slA k sz xs) ∧ G2.next = G.next ∧ (∀ i, i < n0 → G2.get i = G.get i) ∧ (∀ i o, G.get i = some o → (∀ gen off len sz, v ≠ .wr i gen off len sz) → G2.get i = some o) := by
  rcases h with ⟨rfl, rfl⟩ | ⟨id, gen, rfl, hid, hg⟩
  · exact ⟨G, 0, .refl _ _, rfl, fun _ _ => rfl, fun _ _ h _ => h⟩
  · refine ⟨G.kill id, 2, ?_, rfl, fun i hi => kill_get_ne _ _ _ (by omega), fun i o h hv => ?_⟩
    · have : slA 2 sz xs = .imm sz xs := by cases xs <;> rfl
      rw [this]
      refine .row _ _ _ _ _ _ e (xs.flatMap AV.cells) xs hg hx rfl ?_
      rw [List.drop_zero, List.take_of_length_le]
      rw [flat_length _ _ hx]
      exact Nat.le_refl _
    · have : i ≠ id := fun h2 => hv _ _ _ _ (by rw [h2])
      rw [kill_get_ne _ _ _ this]
      exact h
section
variable {H G G2 : AHeap} {K : AV → AHeap → Prop} {y v v' v2 : AV} {n0 : Nat}
theorem grew_refl : Grew n0 v H v H := ⟨Nat.le_refl _, fun _ _ => rfl, fun _ _ h _ => h, fun _ _ h => h⟩
theorem aret_full (hn : H.next ≤ G.next) (hG : G.within G.next) (hy : y.under G.next) (hk : K y G) : ARet H.next K y G :=
  ⟨G, y, G.next, .refl _ _, hn, hy, hG, by rw [trunc_self]; exact hk⟩
theorem slat_under {e sz : Nat} {xs : List AV} (h : SlAt n0 G e sz v xs) : v.under G.next := by
  rcases h with ⟨rfl, rfl⟩ | ⟨id, gen, rfl, hid, hg⟩
  · exact .nils
  · exact .wr _ _ _ _ _ (G.lt hg)
theorem slat_app2 {e sz b : Nat} {xs ys : List AV} (h : SlAt n0 G e sz v xs) (hn : n0 ≤ G.next) (hx : ∀ x ∈ xs, x.cells.length = sz) (h1 : (ys.flatMap AV.cells).all AV.one = true) (hb : (xs.length + ys.length) * b ≤ 140737488355328) (hw : G.within G.next) (hu : ∀ n, AllC n xs) (hu2 : ∀ n, AllC n ys) :
    ∃ v' G', aapp e sz b G v (.imm sz ys) = some (v', hp G' []) ∧ SlAt n0 G' e sz v' (xs ++ ys) ∧ Grew n0 v G v' G' ∧ G'.within G'.next := by
  have hc : acells G sz (.imm sz ys) = some (ys.length, ys.flatMap AV.cells) := by simp only [acells, if_true]
  have hfl : ∀ (n : Nat) (l : List AV), (∀ n, AllC n l) → AllU n (l.flatMap AV.cells) := fun n l hl c hc => by
    obtain ⟨x, hx, hcx⟩ := List.mem_flatMap.1 hc
    exact hl n x hx c hcx
  rcases h with ⟨rfl, rfl⟩ | ⟨id, gen, rfl, hid, hg⟩
  · rw [aapp_nils, hc]
    simp only [h1, if_true]
    by_cases hy : ys.length = 0
    · rw [if_pos hy]
      obtain rfl := List.length_eq_zero_iff.1 hy
      exact ⟨.nils, G, by rw [hp_nil], .inl ⟨rfl, rfl⟩, grew_refl, hw⟩
    · rw [if_neg hy, if_pos (by simpa using hb)]
      refine ⟨.wr G.next 0 0 ys.length sz, G.push (.row e 0 (ys.flatMap AV.cells)), by rw [hp_nil], .inr ⟨G.next, 0, by simp, hn, ?_⟩, ⟨Nat.le_succ _, fun i hi => push_get_old _ _ _ (by omega), fun i o h _ => by rw [push_get_old _ _ _ (G.lt h)]; exact h, fun j hj _ gen off len sz e => ?_⟩, ?_⟩
      · rw [push_get_new]
        rfl
      · cases e
        omega
      · have hpush : G.push (.row e 0 (ys.flatMap AV.cells)) = hp G [.row e 0 (ys.flatMap AV.cells)] := by
          have := hp_push G [] (.row e 0 (ys.flatMap AV.cells))
          rw [hp_nil] at this
          exact this
        rw [hpush]
        refine within_hp2 hw (fun o ho => ?_)
        rw [List.mem_singleton] at ho
        subst ho
        exact hfl _ ys hu2
  · rw [aapp_wr, hc]
    simp only [h1, if_true, hg]
    rw [if_pos ⟨trivial, trivial, trivial, by rw [flat_length _ _ hx], hb⟩]
    refine ⟨.wr id (gen + 1) 0 (xs.length + ys.length) sz, G.set id (.row e (gen + 1) (xs.flatMap AV.cells ++ ys.flatMap AV.cells)), by rw [hp_nil], .inr ⟨id, gen + 1, by rw [List.length_append], hid, ?_⟩, ⟨Nat.le_refl _, fun i hi => set_get_ne _ _ _ _ (by omega), fun i o h hv => ?_, fun j hj hv gen2 off2 len2 sz2 e => ?_⟩, ?_⟩
    · rw [set_got (G.lt hg), List.flatMap_append]
    · have : i ≠ id := fun h2 => hv _ _ _ _ (by rw [h2])
      rw [set_get_ne _ _ _ _ this]
      exact h
    · cases e
      exact hv _ _ _ _ rfl
    · refine within_set hw ?_
      rw [u_app]
      exact ⟨hfl _ xs hu, hfl _ ys hu2⟩
end
end Go.Proofs.Ytdknpnmdjjmapaa.AL

