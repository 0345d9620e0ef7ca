/- A slice of one's own with its capacity: told at a function's entry, and given away again. -/
import Derived.Test.YtdknpnmdjjmapaaQReserveBytesALGrew
set_option linter.unusedSimpArgs false
set_option linter.unusedVariables false
set_option maxRecDepth 100000
set_option maxHeartbeats 16000000
namespace Go.Proofs.Ytdknpnmdjjmapaa.AL
open Go Go.Proofs
section
variable {g : Ghost} {w : World} {H : AHeap}
/-- A row's cells, and as many unknown ones as there is room for. -/
def padC (n : Nat) (cs : List AV) : List AV := cs ++ List.replicate (n - cs.length) .top
theorem padC_len (n : Nat) (cs : List AV) : n ≤ (padC n cs).length := by unfold padC; rw [List.length_append, List.length_replicate]; omega
theorem padC_take (n : Nat) (cs : List AV) {m : Nat} (h : m ≤ cs.length) : (padC n cs).take m = cs.take m := List.take_append_of_le_length h
theorem reps_set {vs : Array Value} {pre post : List AV} {y z : AV} (h : Reps g w vs (pre ++ y :: post)) (hz : ∀ v, vs[pre.length]? = some v → Rep g w v z) : Reps g w vs (pre ++ z :: post) := Reps.replace (Ext.refl g w) h hz
/-- A call that is handed a slice of one's own may be told with its capacity. -/
theorem acalls_cap {P : Program} {f id gen off len sz : Nat} {e : TypeId} {cs : List AV} {pre post : List AV} {K : AV → AHeap → Prop} (hg : H.get id = some (.row e gen cs))
    (h : ∀ cap, len ≤ cap → cap ≤ 9223372036854775807 → ACalls P f (pre ++ .wc id gen off len cap sz :: post) (H.set id (.row e gen (padC (off + cap * sz) cs))) K) : ACalls P f (pre ++ .wr id gen off len sz :: post) H K := by
  intro g w vs hS hR
  have hlt : pre.length < vs.size := by rw [hR.1]; simp
  have hr := hR.2 pre.length vs[pre.length] (.wr id gen off len sz) (Array.getElem?_eq_getElem hlt) (by simp)
  obtain ⟨b, c, e', n, hv, h1, h2, h3, h4, h5⟩ := hr.wr_inv
  have hlive := hS.live id _ hg
  have hobj : RepObj g w id (.row e gen (padC (off + c * sz) cs)) := by
    obtain ⟨b', cur, lo, hi, q1, q2, q3, q4, q5⟩ := hlive
    rw [h1] at q1
    obtain rfl := Option.some.inj q1
    have hn : cur.size = n := by
      unfold World.shape? at h2
      rw [q2] at h2
      simp only [Option.some.injEq, Prod.mk.injEq] at h2
      exact h2.2
    refine ⟨b, cur, lo, hi, h1, q2, q3, by unfold padC; rw [List.length_append, List.length_replicate]; omega, fun i y hy => ?_⟩
    unfold padC at hy
    by_cases hi1 : i < cs.length
    · rw [List.getElem?_append_left hi1] at hy
      exact q5 i y hy
    · rw [List.getElem?_append_right (by omega), List.getElem?_replicate] at hy
      split at hy
      · obtain rfl := Option.some.inj hy
        have : i < cur.size := by omega
        exact ⟨cur[i], Array.getElem?_eq_getElem this, .top _⟩
      · cases hy
  refine h c h4 h5 g w vs (sim_repad hS hg hobj) (reps_set hR (fun v hv2 => ?_))
  rw [Array.getElem?_eq_getElem hlt] at hv2
  obtain rfl := Option.some.inj hv2
  rw [hv]
  exact .wc id gen off len c sz b e' n h1 h2 h3 h4 h5
end
end Go.Proofs.Ytdknpnmdjjmapaa.AL

