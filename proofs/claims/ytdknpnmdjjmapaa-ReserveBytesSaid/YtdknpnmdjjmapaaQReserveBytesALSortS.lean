/- The library's SortFunc, laid at this program's spans, as a told call. -/
import Derived.Test.YtdknpnmdjjmapaaQReserveBytesALSort
import Derived.Test.YtdknpnmdjjmapaaProg
import Derived.KernelRfl
import Derived.Shelf.Lay
import Derived.Shelf.SlicesG.Cmp
import Derived.Ground.SlsfProg
import Derived.Ground.SlgcProg
set_option linter.unusedVariables false
set_option maxRecDepth 100000
namespace Go.Proofs
open Go.Shelf Go.RowKit Go.Lib Go.Sort
shelf_lay_g SlLaysF0.n6 Slsf 6 at Try 58 as Try.laySort
shelf_lay_g SlLaysC2.n5 Slgc 5 at Try 60 as Try.layCmp
namespace Ytdknpnmdjjmapaa.AL
open Go Go.Proofs
set_option maxHeartbeats 1000000 in
theorem cmpSp (x y : Int × Int) (W : World) : Calls Try.prog 59 #[.agg #[.int .i64 x.1, .int .i64 x.2], .agg #[.int .i64 y.1, .int .i64 y.2]] W fun e w' => e = .returned (.int .i64 (Lib.compareInt x.1 y.1)) ∧ ∃ q os', w' = grow (W.drewN q) os' := by
  have hcon := fun W' => AnyG.cmp_Compare_int Try.layCmp x.1 y.1 W'
  change ∀ W', Calls Try.prog 60 _ _ _ at hcon
  generalize Lib.compareInt x.1 y.1 = r at hcon ⊢
  go_enter Try.func59, Try.ntmps59
  go_wp2_with (go_at_call 60; refine (hcon _).mono ?_; rintro e w' ⟨rfl, rfl⟩)
  go_ret
  exact ⟨rfl, 0, _, by rw [alloc_eq_grow, alloc_eq_grow, grow_grow]; rfl⟩
theorem ltA_is (x y : Int × Int) : ltOf (fun x y : Int × Int => Lib.compareInt x.1 y.1) x y = ltA x y := by
  unfold ltOf Lib.compareInt ltA
  by_cases h1 : x.1 < y.1
  · simp [h1]
  · by_cases h2 : y.1 < x.1 <;> simp [h1, h2]
theorem swoA : SWO (ltOf fun x y : Int × Int => Lib.compareInt x.1 y.1) where
  irrefl x := by rw [ltA_is]; unfold ltA; simp
  trans x y z h1 h2 := by rw [ltA_is] at *; unfold ltA at *; simp at *; omega
  ntrans x y z h1 h2 := by rw [ltA_is] at *; unfold ltA at *; simp at *; omega
theorem sort_k (b cap : Nat) (d : Array (Int × Int)) (w : World) (hH : HoldsK encSp 2 w b 0 d) (hblk : b < w.heap.size) (hsz : d.size < 4611686018427387904) :
    Calls Try.prog 58 #[.slice (some ⟨b, 0, none⟩) (d.size : Nat) cap, .func (.func 59) #[] #[]] w fun ee w' => ee = .returned (.tuple #[]) ∧ ∃ d' n os, PermIn 0 d.size d d' ∧ SortedIn ltA 0 d.size d' ∧ w' = sortWorldK encSp 2 w b 0 n d' os := by
  have eg : ∀ args w, (callFunc 59 args).run Try.prog w = .ok (.enter 59 args) w := enters_of Try.func59 (by kernel_rfl) rfl
  have hcon := AnyQ.slices_SortFunc Try.laySort 2 Try.isAgg64 Try.sizeOf64 encSp (fun _ => rfl) (fun x v hv => by simp [encSp] at hv; rcases hv with rfl | rfl <;> rfl) (fun x y => Lib.compareInt x.1 y.1) swoA 59 #[] b 0 cap d w eg (fun _ _ _ _ x y => cmpSp x y _) hH hblk hsz
  refine hcon.mono (fun e w' he => ?_)
  obtain ⟨rfl, d', n, os, hp, hs, rfl⟩ := he
  have e1 : (ltOf fun x y : Int × Int => Lib.compareInt x.1 y.1) = ltA := funext fun x => funext fun y => ltA_is x y
  rw [e1] at hs
  exact ⟨rfl, d', n, os, hp, hs, rfl⟩
theorem sortSp_a {n0 n : Nat} {ac : ACode} {rs : List RV} (hT : Told Try.prog 58 n ac rs) {v : AV} {e : TypeId} {l : List (Int × Int)} {H : AHeap} {K : AV → AHeap → Prop} (hv : SlAt n0 H e 2 v (l.map spV)) (hl : l.length ≤ 1000000)
    (h : ∀ (l' : List (Int × Int)) (G : AHeap), l'.Perm l → l'.length = l.length → l'.Pairwise (fun p q => p.1 ≤ q.1) → SlAt n0 G e 2 v (l'.map spV) → G.next = H.next → (∀ i, i < n0 → G.get i = H.get i) → K (.tup []) G) :
    (ACalls Try.prog) 58 [v, .func (.func 59) [] []] H K := by
  rcases hv with ⟨rfl, he⟩ | ⟨id, gen, rfl, hid, hg⟩
  · have hl0 : l = [] := by simpa using he
    subst hl0
    refine acalls_calls hT (fun g w vs hS hR => ?_)
    obtain ⟨u, f, rfl, h1, h2⟩ := reps_two hR
    obtain ⟨first, caps, rfl, h3, h4⟩ := h2.func_inv
    have h5 : u = .slice none 0 0 := by cases h1; rfl
    subst h5
    refine (AnyF.slices_SortFunc_none { Try.laySort with } none 0 (.func (.func 59) first caps) w).mono (fun ee w' he => ?_)
    obtain ⟨rfl, rfl⟩ := he
    exact ⟨.tuple #[], .tup [], H, g, rfl, h [] H (List.Perm.refl _) rfl .nil (.inl ⟨rfl, rfl⟩) rfl (fun _ _ => rfl), Ext.refl _ _, hS, .tup _ _ rfl (fun i v y hv hy => by simp at hy)⟩
  · rw [List.length_map]
    have hlg := H.lt hg
    refine acalls_sortSp hT hg (fun b cap w hH hb => sort_k b cap l.toArray w hH hb (by rw [List.size_toArray]; omega)) (fun l' p1 p2 p3 => ?_)
    exact h l' _ p1 p2 p3 (.inr ⟨id, gen, by rw [List.length_map, List.length_map, p2], hid, set_got hlg⟩) rfl (fun i hi => set_other (by omega))
end Ytdknpnmdjjmapaa.AL
end Go.Proofs

