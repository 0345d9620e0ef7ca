/- Pairs of numbers in a slice of one's own, sorted by the library: the kit's own contract as a told call. -/
import Derived.Test.YtdknpnmdjjmapaaQReserveBytesALCalls
import Derived.Test.YtdknpnmdjjmapaaQReserveBytesALA4
import Derived.Test.YtdknpnmdjjmapaaQReserveBytesALGrew
import Derived.Shelf.SlSortCmp.NoneTotal
set_option linter.unusedSimpArgs false
set_option linter.unusedVariables false
set_option maxRecDepth 100000
namespace Go.Proofs.Ytdknpnmdjjmapaa.AL
open Go Go.Proofs Go.Shelf Go.RowKit Go.Lib Go.Sort
def spV (p : Int × Int) : AV := .agg [.int .i64 p.1, .int .i64 p.2]
theorem spV_is (p : Int × Int) : spV p = .agg [.int .i64 p.1, .int .i64 p.2] := rfl
theorem spV_cells (p : Int × Int) : (spV p).cells = [.int .i64 p.1, .int .i64 p.2] := rfl
def encSp (p : Int × Int) : List Value := [.int .i64 p.1, .int .i64 p.2]
theorem sp_cells (l : List (Int × Int)) : (l.map spV).flatMap AV.cells = l.flatMap (fun p => [AV.int .i64 p.1, AV.int .i64 p.2]) := by
  rw [List.flatMap_map]
  rfl
theorem flat2 {α β : Type} (f g : α → β) : ∀ (l : List α) (j : Nat), (l.flatMap (fun p => [f p, g p]))[j]? = (l[j / 2]?).map (fun p => if j % 2 = 0 then f p else g p)
  | [], j => by simp
  | p :: l, 0 => rfl
  | p :: l, 1 => rfl
  | p :: l, j + 2 => by
    have e1 : (j + 2) / 2 = j / 2 + 1 := by omega
    have e2 : (j + 2) % 2 = j % 2 := by omega
    rw [e1, e2, List.getElem?_cons_succ, ← flat2 f g l j]
    rfl
theorem flat2_len (l : List (Int × Int)) : ((l.map spV).flatMap AV.cells).length = l.length * 2 := by
  induction l with
  | nil => rfl
  | cons p l ih =>
    rw [List.map_cons, List.flatMap_cons, List.length_append, ih, spV_cells, List.length_cons]
    simp only [List.length_cons, List.length_nil]
    omega
def ltA (x y : Int × Int) : Bool := decide (x.1 < y.1)
theorem sort_lists {l l' : List (Int × Int)} (hp : PermIn 0 l.toArray.size l.toArray l'.toArray) (hs : SortedIn ltA 0 l.toArray.size l'.toArray) : l'.Perm l ∧ l'.length = l.length ∧ l'.Pairwise (fun p q => p.1 ≤ q.1) := by
  obtain ⟨h1, _, h3⟩ := hp
  have hl : l'.length = l.length := by simpa using h1
  refine ⟨?_, hl, ?_⟩
  · have e1 : (l.toArray.extract 0 l.toArray.size).toList = l := by simp
    have e2 : (l'.toArray.extract 0 l.toArray.size).toList = l' := by
      have : l.toArray.size = l'.toArray.size := h1.symm
      rw [this]
      simp
    rw [e1, e2] at h3
    exact h3
  · rw [List.pairwise_iff_getElem]
    intro i j hi hj hij
    have h := hs i j (Nat.zero_le _) hij (by simpa [hl] using hj)
    have e1 : l'.toArray[j]! = l'[j] := by simp [hj]
    have e2 : l'.toArray[i]! = l'[i] := by simp [hi]
    rw [e1, e2] at h
    unfold ltA at h
    have := of_decide_eq_false h
    omega
theorem holds_sp {g : Ghost} {w : World} {H : AHeap} {id gen b : Nat} {e : TypeId} {l : List (Int × Int)} (hS : Sim g w H) (hg : H.get id = some (.row e gen ((l.map spV).flatMap AV.cells))) (hb : g.m id gen = some b) : HoldsK encSp 2 w b 0 l.toArray := by
  obtain ⟨b', cur, lo, hi, p1, p2, p3, p4, p5⟩ := hS.live id _ hg
  rw [hb] at p1
  obtain rfl := Option.some.inj p1
  intro j hj
  rw [size_flatK] at hj
  have hj2 : j < l.length * 2 := by simpa using hj
  have hd : j / 2 < l.length := by omega
  rw [Nat.zero_add]
  obtain ⟨u, hu, hr⟩ := p5 j (if j % 2 = 0 then .int .i64 l[j / 2].1 else .int .i64 l[j / 2].2) (by rw [sp_cells, flat2, List.getElem?_eq_getElem hd]; rfl)
  have hjc : j < cur.size := by
    rw [flat2_len] at p4
    omega
  refine ⟨?_, ?_⟩
  · unfold World.cell?
    simp only [p2]
    rw [if_neg (by simp), hu, get_flatK _ _ _ _ hj]
    have e1 : (l.toArray[j / 2]!) = l[j / 2] := by simp [hd]
    rw [e1]
    congr 1
    rcases Nat.mod_two_eq_zero_or_one j with hm | hm
    · rw [hm, if_pos rfl] at hr
      rw [int_inv hr, hm]
      rfl
    · rw [hm, if_neg (by decide)] at hr
      rw [int_inv hr, hm]
      rfl
  · unfold World.frozen?
    simp only [p2]
    have := p3 j (by omega)
    simpa using this
theorem acalls_sortSp {P : Program} {f n : Nat} {ac : ACode} {rs : List RV} (hT : Told P f n ac rs) {fn id gen : Nat} {e : TypeId} {l : List (Int × Int)} {H : AHeap} {K : AV → AHeap → Prop} (hg : H.get id = some (.row e gen ((l.map spV).flatMap AV.cells)))
    (hC : ∀ (b cap : Nat) (w : World), HoldsK encSp 2 w b 0 l.toArray → b < w.heap.size → Calls P f #[.slice (some ⟨b, 0, none⟩) (l.toArray.size : Nat) cap, .func (.func fn) #[] #[]] w fun ee w' => ee = .returned (.tuple #[]) ∧ ∃ d' n os, PermIn 0 l.toArray.size l.toArray d' ∧ SortedIn ltA 0 l.toArray.size d' ∧ w' = sortWorldK encSp 2 w b 0 n d' os)
    (h : ∀ l' : List (Int × Int), l'.Perm l → l'.length = l.length → l'.Pairwise (fun p q => p.1 ≤ q.1) → K (.tup []) (H.set id (.row e gen ((l'.map spV).flatMap AV.cells)))) : ACalls P f [.wr id gen 0 l.length 2, .func (.func fn) [] []] H K :=
  acalls_calls hT (fun g w vs hS hR => by
    obtain ⟨u, v, rfl, h1, h2⟩ := reps_two hR
    obtain ⟨b, c, e', n', rfl, q1, q2, q3, q4, q5⟩ := h1.wr_inv
    obtain ⟨first, caps, rfl, h3, h4⟩ := h2.func_inv
    obtain rfl : first = #[] := by
      have := h3.1
      exact Array.eq_empty_of_size_eq_zero this
    obtain rfl : caps = #[] := by
      have := h4.1
      exact Array.eq_empty_of_size_eq_zero this
    have hH := holds_sp hS hg q1
    have hbl := (hS.mlt _ _ _ q1).2
    have hc := hC b c w hH hbl
    rw [List.size_toArray] at hc
    refine hc.mono (fun ee w' he => ?_)
    obtain ⟨rfl, d', m, os, hp, hs, rfl⟩ := he
    obtain ⟨l'⟩ := d'
    have es : l.length = l.toArray.size := by simp
    rw [es] at hp hs
    obtain ⟨r1, r2, r3⟩ := sort_lists hp hs
    obtain ⟨b', cur, lo, hi, p1, p2, p3, p4, p5⟩ := hS.live id _ hg
    rw [q1] at p1
    obtain rfl := Option.some.inj p1
    have hF : (flatK encSp 2 l'.toArray).size = l.length * 2 := by
      rw [size_flatK, List.size_toArray, r2]
    rw [flat2_len] at p4
    have hheap : (putRowK encSp 2 (Sort.ahead w m) b 0 l'.toArray).heap = w.heap.setIfInBounds b (.cells (putCells _root_.id 0 (flatK encSp 2 l'.toArray) cur) e (lo, hi)) := by
      show w.heap.modify b (onCells (putCells _root_.id 0 (flatK encSp 2 l'.toArray))) = _
      apply Array.ext_getElem?
      intro i
      rw [Array.getElem?_modify, Array.getElem?_setIfInBounds]
      by_cases hi' : b = i
      · subst hi'
        rw [if_pos rfl, if_pos rfl, p2, if_pos hbl]
        rfl
      · rw [if_neg hi', if_neg hi']
    obtain ⟨E1, S1, _⟩ := sim_cells (w' := putRowK encSp 2 (Sort.ahead w m) b 0 l'.toArray) (ys := (l'.map spV).flatMap AV.cells) hS hg q1 (.inl rfl) p2 p3 hheap (by simp [putCells]) (by rw [flat2_len, r2]; exact p4) (fun i y hy => by
      have hil : i < l'.length * 2 := by
        have := (List.getElem?_eq_some_iff.1 hy).1
        rwa [flat2_len] at this
      have hd : i / 2 < l'.length := by omega
      have hic : i < cur.size := by omega
      rw [sp_cells, flat2, List.getElem?_eq_getElem hd] at hy
      obtain rfl := Option.some.inj hy
      have e0 : (putCells _root_.id 0 (flatK encSp 2 l'.toArray) cur)[i]? = some (if 0 ≤ i ∧ i < 0 + (flatK encSp 2 l'.toArray).size then _root_.id (flatK encSp 2 l'.toArray)[i - 0]! else cur[i]) := by
        unfold putCells
        rw [Array.getElem?_mapIdx, Array.getElem?_eq_getElem hic]
        rfl
      refine ⟨_, e0, ?_⟩
      rw [if_pos ⟨Nat.zero_le _, by omega⟩, Nat.sub_zero, _root_.id, get_flatK _ _ _ _ (by rw [List.size_toArray]; exact hil)]
      have e1 : (l'.toArray[i / 2]!) = l'[i / 2] := by simp [hd]
      rw [e1]
      rcases Nat.mod_two_eq_zero_or_one i with hm | hm
      · rw [hm]
        exact .int _ _
      · rw [hm]
        exact .int _ _) rfl rfl rfl
    obtain ⟨E2, S2⟩ := sim_below (w' := sortWorldK encSp 2 w b 0 m l'.toArray os) S1 ⟨rfl, rfl, rfl, by unfold sortWorldK; rw [size_grow]; exact Nat.le_add_right _ _, fun k hk => heap_grow_old _ os hk⟩
    refine ⟨.tuple #[], .tup [], _, _, rfl, h l' r1 r2 r3, E1.trans E2, S2, .tup _ _ ?_ ?_⟩
    · rfl
    · intro i v y hv hy
      simp at hy)
end Go.Proofs.Ytdknpnmdjjmapaa.AL

