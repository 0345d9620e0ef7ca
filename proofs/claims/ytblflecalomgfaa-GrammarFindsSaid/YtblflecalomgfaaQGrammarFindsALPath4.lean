/- The document's paths, the plain law: in a tree that is right each node is found at its path, and each property by its name. -/
import Derived.Test.YtblflecalomgfaaQGrammarFindsALPath3
import Derived.Test.YtblflecalomgfaaQGrammarFindsALGram6
set_option linter.unusedSimpArgs false
set_option linter.unusedVariables false
set_option maxRecDepth 100000
set_option maxHeartbeats 16000000
namespace Go.Proofs.Ytblflecalomgfaa.AL
open Go Go.Proofs
def goodN (n : List UInt8) : Prop := n ≠ [] ∧ (47 : UInt8) ∉ n
theorem cut1_in (c x : UInt8) : ∀ s : List UInt8, x ∈ s → x = c ∨ x ∈ (cut1 c s).1 ∨ x ∈ (cut1 c s).2.1
  | [], h => nomatch h
  | y :: s, h => by
    rw [cut1]
    have ih := cut1_in c x s
    by_cases hy : y = c
    · rw [if_pos hy]
      rcases List.mem_cons.1 h with q | q
      · exact .inl (q.trans hy)
      · exact .inr (.inr q)
    · rw [if_neg hy]
      rcases List.mem_cons.1 h with q | q
      · exact .inr (.inl (by rw [q]; exact List.mem_cons_self))
      · rcases ih q with r | r | r
        · exact .inl r
        · exact .inr (.inl (List.mem_cons_of_mem _ r))
        · exact .inr (.inr r)
theorem nodeOk_good {s : List UInt8} (h : nodeOk s = true) : goodN s := by
  unfold nodeOk at h
  simp only [Bool.and_eq_true, decide_eq_true_eq] at h
  obtain ⟨⟨⟨⟨⟨h1, h2⟩, h3⟩, h4⟩, h5⟩, h6⟩ := h
  refine ⟨fun e => by rw [e] at h2; exact h2 rfl, fun hm => ?_⟩
  rcases cut1_in 64 47 s hm with q | q | q
  · exact absurd q (by decide)
  · have := List.all_eq_true.1 h5 _ q
    exact absurd this (by decide)
  · have := List.all_eq_true.1 h6 _ q
    exact absurd this (by decide)
def pathOf (ns : List (List UInt8)) : List UInt8 := if ns = [] then [47] else ns.flatMap (fun n => 47 :: n)
theorem trimS_id {p : List UInt8} {n : List UInt8} (hn : goodN n) : trimS (p ++ n) = p ++ n := by
  unfold trimS
  rw [if_neg]
  rintro ⟨h1, h2⟩
  obtain ⟨a, x, rfl⟩ : ∃ a x, n = a ++ [x] := ⟨n.dropLast, n.getLast hn.1, (List.dropLast_concat_getLast hn.1).symm⟩
  rw [← List.append_assoc, List.drop_append_of_le_length (by simp), List.drop_of_length_le (by simp)] at h2
  have := (List.cons.inj h2).1
  exact hn.2 (by rw [this]; simp)
theorem joinP_path {ns : List (List UInt8)} {n : List UInt8} (h : ∀ x ∈ ns, goodN x) : joinP (pathOf ns) n = pathOf (ns ++ [n]) := by
  have e1 : pathOf (ns ++ [n]) = (ns ++ [n]).flatMap (fun n => 47 :: n) := by
    unfold pathOf
    rw [if_neg (by simp)]
  rw [e1]
  unfold joinP
  by_cases h0 : ns = []
  · subst h0
    rw [List.nil_append, List.flatMap_cons, List.flatMap_nil, List.append_nil]
    rfl
  · have e2 : pathOf ns = ns.flatMap (fun n => 47 :: n) := by
      unfold pathOf
      rw [if_neg h0]
    rw [e2]
    have hl := h _ (List.getLast_mem h0)
    have e := List.dropLast_concat_getLast h0
    generalize ns.dropLast = a at *
    generalize ns.getLast h0 = x at *
    subst e
    have := trimS_id (p := a.flatMap (fun n => 47 :: n) ++ [47]) hl
    simp only [List.flatMap_append, List.flatMap_cons, List.flatMap_nil, List.append_nil, List.append_assoc, List.cons_append, List.nil_append] at this ⊢
    rw [this]
    simp
theorem scanP_name (out : List (List UInt8)) (rest : List UInt8) : ∀ (n cur : List UInt8), (47 : UInt8) ∉ n → scanP cur out (n ++ rest) = scanP (cur ++ n) out rest
  | [], cur, _ => by rw [List.append_nil, List.nil_append]
  | c :: n, cur, h => by
    rw [List.cons_append, scanP, if_neg (fun e => h (by rw [e]; exact List.mem_cons_self)), scanP_name out rest n _ (fun q => h (List.mem_cons_of_mem _ q)), List.append_assoc]
    rfl
theorem scanP_path : ∀ (ns : List (List UInt8)) (n : List UInt8) (out : List (List UInt8)), goodN n → (∀ x ∈ ns, goodN x) → out.length + ns.length + 1 ≤ 7 → scanP [] out (n ++ ns.flatMap (fun n => 47 :: n)) = some (out ++ n :: ns)
  | [], n, out, hn, hg, hl => by
    rw [List.flatMap_nil, scanP_name _ _ _ _ hn.2, List.nil_append, scanP, if_neg]
    rintro (q | q)
    · exact hn.1 q
    · simp only [List.length_nil] at hl
      omega
  | m :: ns, n, out, hn, hg, hl => by
    simp only [List.length_cons] at hl
    rw [List.flatMap_cons, scanP_name _ _ _ _ hn.2, List.nil_append, List.cons_append, scanP, if_pos rfl, if_neg (by rintro (q | q); exact hn.1 q; omega), scanP_path ns m (out ++ [n]) (hg m List.mem_cons_self) (fun x hx => hg x (List.mem_cons_of_mem _ hx)) (by rw [List.length_append, List.length_singleton]; omega), List.append_assoc]
    rfl
theorem partsP_path {ns : List (List UInt8)} (hg : ∀ x ∈ ns, goodN x) (hl : ns.length ≤ 7) : partsP (pathOf ns) = some ns := by
  unfold partsP
  cases ns with
  | nil => rfl
  | cons n ns =>
    have hn := hg n List.mem_cons_self
    have e : pathOf (n :: ns) = 47 :: (n ++ ns.flatMap (fun n => 47 :: n)) := by
      unfold pathOf
      rw [if_neg (by simp), List.flatMap_cons]
      rfl
    rw [e, if_neg (fun q => hn.1 (by have := (List.cons.inj q).2; exact (List.append_eq_nil_iff.1 this).1)), if_pos (show (47 :: (n ++ ns.flatMap (fun n => 47 :: n)) : List UInt8).getD 0 0 = 47 from rfl)]
    show scanP [] [] (n ++ _) = _
    rw [scanP_path ns n [] hn (fun x hx => hg x (List.mem_cons_of_mem _ hx)) (by simp only [List.length_cons] at hl; simp only [List.length_nil]; omega)]
    rfl
theorem dup_find {α : Type} (f : α → List UInt8) {l : List α} (hd : dupS (l.map f) = false) {a : α} (ha : a ∈ l) : l.find? (fun x => decide (f x = f a)) = some a := by
  obtain ⟨j, hj, rfl⟩ := List.mem_iff_getElem.1 ha
  rw [List.find?_eq_some_iff_getElem]
  refine ⟨by simp, j, hj, rfl, fun i hi => ?_⟩
  simp only [Bool.not_eq_true', decide_eq_false_iff_not]
  intro e
  have hc : dupS (l.map f) = true := by
    unfold dupS
    refine List.any_eq_true.2 ⟨j, List.mem_range.2 (by rw [List.length_map]; exact hj), ?_⟩
    rw [List.contains_iff_mem, List.getD_eq_getElem?_getD, List.getElem?_map, List.getElem?_eq_getElem hj]
    refine List.mem_iff_getElem.2 ⟨i, by rw [List.length_take, List.length_map]; omega, ?_⟩
    rw [List.getElem_take, List.getElem_map]
    exact e
  rw [hc] at hd
  cases hd
theorem nmErr_0 {q : List UInt8 → Bool} {ls : List (List UInt8)} (h : nmErr q ls = 0) : (∀ s ∈ ls, q s = true) ∧ dupS ls = false := by
  unfold nmErr at h
  split at h
  · cases h
  · rename_i h1
    split at h
    · cases h
    · rename_i h2
      refine ⟨fun s hs => ?_, by simpa using h2⟩
      cases hq : q s with
      | true => rfl
      | false => exact absurd (List.any_eq_true.2 ⟨s, hs, by rw [hq]; rfl⟩) h1
theorem here_0 {t : Tr} (h : hereErr t = 0) : nmErr propOk (pnames t) = 0 ∧ nmErr nodeOk (knames t) = 0 := by
  unfold hereErr at h
  split at h
  · rename_i h1
    exact ⟨h1, h⟩
  · rename_i h1
    exact absurd h h1
theorem val_own {t : Tr} (h : hereErr t = 0) {p : List UInt8 × List UInt8} (hp : p ∈ t.props) : valT t p.1 = some p.2 := by
  have := dup_find (fun p : List UInt8 × List UInt8 => p.1) (l := t.props) (nmErr_0 (here_0 h).1).2 hp
  unfold valT
  rw [this]
  rfl
theorem kid_own {t k : Tr} (h : hereErr t = 0) (hk : k ∈ t.kids) : kidT t k.name = some k ∧ goodN k.name :=
  ⟨dup_find Tr.name (nmErr_0 (here_0 h).2).2 hk, nodeOk_good ((nmErr_0 (here_0 h).2).1 _ (List.mem_map_of_mem hk))⟩
theorem walkTo_app : ∀ (ns : List (List UInt8)) (r t k : Tr) (n : List UInt8), walkTo r ns = some t → kidT t n = some k → walkTo r (ns ++ [n]) = some k
  | [], r, t, k, n, h, hk => by
    rw [walkTo] at h
    obtain rfl := Option.some.inj h
    rw [List.nil_append, walkTo, hk]
    rfl
  | m :: ns, r, t, k, n, h, hk => by
    rw [List.cons_append, walkTo]
    rw [walkTo] at h
    cases hc : kidT r m with
    | none =>
      rw [hc] at h
      cases h
    | some c =>
      rw [hc] at h
      exact walkTo_app ns c t k n h hk
theorem walk_found (r : Tr) : ∀ (l : Nat) (t : Tr) (ns : List (List UInt8)), (∀ x ∈ ns, goodN x) → ns.length + l ≤ 8 → walkTo r ns = some t → (∀ s ∈ twalk l (pathOf ns) t, hereErr s.2 = 0) → ∀ s ∈ twalk l (pathOf ns) t, findT r s.1 = some s.2
  | 0, t, ns, hg, hl, hw, h0, s, hs => by
    rw [twalk] at hs
    cases hs
  | l + 1, t, ns, hg, hl, hw, h0, s, hs => by
    rw [twalk] at hs h0
    have ht := h0 _ List.mem_cons_self
    rcases List.mem_cons.1 hs with q | q
    · subst q
      unfold findT
      simp only
      rw [partsP_path hg (by omega)]
      exact hw
    · obtain ⟨k, hk, hs2⟩ := List.mem_flatMap.1 q
      obtain ⟨hk1, hk2⟩ := kid_own (t := t) ht hk
      rw [joinP_path hg] at hs2
      refine walk_found r l k (ns ++ [k.name]) (fun x hx => ?_) (by rw [List.length_append, List.length_singleton]; omega) (walkTo_app ns r t k k.name hw hk1) (fun s' hs' => ?_) s hs2
      · rcases List.mem_append.1 hx with e | e
        · exact hg x e
        · rw [List.mem_singleton.1 e]
          exact hk2
      · refine h0 s' (List.mem_cons_of_mem _ (List.mem_flatMap.2 ⟨k, hk, ?_⟩))
        rw [joinP_path hg]
        exact hs'
theorem firstE_all : ∀ {ls : List (List UInt8 × Tr)}, firstE ls = 0 → ∀ s ∈ ls, hereErr s.2 = 0
  | [], _, s, hs => nomatch hs
  | x :: ls, h, s, hs => by
    rw [firstE] at h
    split at h
    · rename_i h1
      rcases List.mem_cons.1 hs with q | q
      · rw [q]
        exact h1
      · exact firstE_all h s q
    · rename_i h1
      exact absurd h h1
theorem chk_0 {t : Tr} (h : chk t = 0) : tFits t = true ∧ firstE (tWalk t) = 0 := by
  unfold chk at h
  split at h
  · cases h
  · split at h
    · cases h
    · rename_i h2
      split at h
      · cases h
      · exact ⟨by simpa using h2, h⟩
theorem finds_all {t : Tr} (h : chk t = 0) : ∀ s ∈ tWalk t, findT t s.1 = some s.2 ∧ hereErr s.2 = 0 := by
  have h0 := firstE_all (chk_0 h).2
  exact fun s hs => ⟨walk_found t 8 t [] (fun _ q => nomatch q) (Nat.le_refl _) rfl h0 s hs, h0 s hs⟩
end Go.Proofs.Ytblflecalomgfaa.AL

