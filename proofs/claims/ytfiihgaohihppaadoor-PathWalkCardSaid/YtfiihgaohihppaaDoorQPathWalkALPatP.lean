/- Paths: the plain law: in a tree whose kids are found again by their names each node is found at its path. -/
import Derived.Test.YtfiihgaohihppaaDoorQPathWalkALPat3
set_option linter.unusedSimpArgs false
set_option linter.unusedVariables false
set_option maxRecDepth 100000
set_option maxHeartbeats 16000000
namespace Go.Proofs.YtfiihgaohihppaaDoor.AL
open Go Go.Proofs
def goodN (n : List UInt8) : Prop := n ≠ [] ∧ (47 : UInt8) ∉ n
def pathOf (ns : List (List UInt8)) : List UInt8 := if ns = [] then [47] else ns.flatMap (fun n => 47 :: n)
theorem trimS_id {p : List UInt8} {n : List UInt8} (hn : goodN n) : trimS (p ++ n) = p ++ n := by
  unfold trimS
  rw [if_neg]
  rintro ⟨h1, h2⟩
  obtain ⟨a, x, rfl⟩ : ∃ a x, n = a ++ [x] := ⟨n.dropLast, n.getLast hn.1, (List.dropLast_concat_getLast hn.1).symm⟩
  rw [← List.append_assoc, List.drop_append_of_le_length (by simp), List.drop_of_length_le (by simp)] at h2
  have := (List.cons.inj h2).1
  exact hn.2 (by rw [this]; simp)
theorem joinP_path {ns : List (List UInt8)} {n : List UInt8} (h : ∀ x ∈ ns, goodN x) : joinP (pathOf ns) n = pathOf (ns ++ [n]) := by
  have e1 : pathOf (ns ++ [n]) = (ns ++ [n]).flatMap (fun n => 47 :: n) := by
    unfold pathOf
    rw [if_neg (by simp)]
  rw [e1]
  unfold joinP
  by_cases h0 : ns = []
  · subst h0
    rw [List.nil_append, List.flatMap_cons, List.flatMap_nil, List.append_nil]
    rfl
  · have e2 : pathOf ns = ns.flatMap (fun n => 47 :: n) := by
      unfold pathOf
      rw [if_neg h0]
    rw [e2]
    have hl := h _ (List.getLast_mem h0)
    have e := List.dropLast_concat_getLast h0
    generalize ns.dropLast = a at *
    generalize ns.getLast h0 = x at *
    subst e
    have := trimS_id (p := a.flatMap (fun n => 47 :: n) ++ [47]) hl
    simp only [List.flatMap_append, List.flatMap_cons, List.flatMap_nil, List.append_nil, List.append_assoc, List.cons_append, List.nil_append] at this ⊢
    rw [this]
    simp
theorem scanP_name (out : List (List UInt8)) (rest : List UInt8) : ∀ (n cur : List UInt8), (47 : UInt8) ∉ n → scanP cur out (n ++ rest) = scanP (cur ++ n) out rest
  | [], cur, _ => by rw [List.append_nil, List.nil_append]
  | c :: n, cur, h => by
    rw [List.cons_append, scanP, if_neg (fun e => h (by rw [e]; exact List.mem_cons_self)), scanP_name out rest n _ (fun q => h (List.mem_cons_of_mem _ q)), List.append_assoc]
    rfl
theorem scanP_path : ∀ (ns : List (List UInt8)) (n : List UInt8) (out : List (List UInt8)), goodN n → (∀ x ∈ ns, goodN x) → out.length + ns.length + 1 ≤ 7 → scanP [] out (n ++ ns.flatMap (fun n => 47 :: n)) = some (out ++ n :: ns)
  | [], n, out, hn, hg, hl => by
    rw [List.flatMap_nil, scanP_name _ _ _ _ hn.2, List.nil_append, scanP, if_neg]
    rintro (q | q)
    · exact hn.1 q
    · simp only [List.length_nil] at hl
      omega
  | m :: ns, n, out, hn, hg, hl => by
    simp only [List.length_cons] at hl
    rw [List.flatMap_cons, scanP_name _ _ _ _ hn.2, List.nil_append, List.cons_append, scanP, if_pos rfl, if_neg (by rintro (q | q); exact hn.1 q; omega), scanP_path ns m (out ++ [n]) (hg m List.mem_cons_self) (fun x hx => hg x (List.mem_cons_of_mem _ hx)) (by rw [List.length_append, List.length_singleton]; omega), List.append_assoc]
    rfl
theorem partsP_path {ns : List (List UInt8)} (hg : ∀ x ∈ ns, goodN x) (hl : ns.length ≤ 7) : partsP (pathOf ns) = some ns := by
  unfold partsP
  cases ns with
  | nil => rfl
  | cons n ns =>
    have hn := hg n List.mem_cons_self
    have e : pathOf (n :: ns) = 47 :: (n ++ ns.flatMap (fun n => 47 :: n)) := by
      unfold pathOf
      rw [if_neg (by simp), List.flatMap_cons]
      rfl
    rw [e, if_neg (fun q => hn.1 (by have := (List.cons.inj q).2; exact (List.append_eq_nil_iff.1 this).1)), if_pos (show (47 :: (n ++ ns.flatMap (fun n => 47 :: n)) : List UInt8).getD 0 0 = 47 from rfl)]
    show scanP [] [] (n ++ _) = _
    rw [scanP_path ns n [] hn (fun x hx => hg x (List.mem_cons_of_mem _ hx)) (by simp only [List.length_cons] at hl; simp only [List.length_nil]; omega)]
    rfl
theorem walkTo_app : ∀ (ns : List (List UInt8)) (r t k : Tr) (n : List UInt8), walkTo r ns = some t → kidT t n = some k → walkTo r (ns ++ [n]) = some k
  | [], r, t, k, n, h, hk => by
    rw [walkTo] at h
    obtain rfl := Option.some.inj h
    rw [List.nil_append, walkTo, hk]
    rfl
  | m :: ns, r, t, k, n, h, hk => by
    rw [List.cons_append, walkTo]
    rw [walkTo] at h
    cases hc : kidT r m with
    | none =>
      rw [hc] at h
      cases h
    | some c =>
      rw [hc] at h
      exact walkTo_app ns c t k n h hk
theorem sp_at {ls : List (List UInt8 × Tr)} {i : Nat} (h : i < ls.length) : (ls.map spV)[i]? = some (spV (ls.getD i ([], tr0))) := by
  rw [List.getElem?_map, List.getD_eq_getElem?_getD, List.getElem?_eq_getElem h]
  rfl
theorem low12 {t : Tr} (h : tLow t = true) : tlow 12 t = true := by
  unfold tLow at h
  rw [Bool.and_eq_true] at h
  exact h.1
theorem twalk_path : ∀ (l m : Nat) (p : List UInt8) (t : Tr), l ≤ m → tlow m t = true → ∀ s ∈ twalk l p t, s.1.length ≤ p.length + 102 * l
  | 0, m, p, t, hm, hw, s, hs => by
    rw [twalk] at hs
    cases hs
  | l + 1, m + 1, p, t, hm, hw, s, hs => by
    rw [twalk] at hs
    rcases List.mem_cons.1 hs with q | q
    · rw [q]
      exact Nat.le_add_right _ _
    · obtain ⟨k, hk, hs2⟩ := List.mem_flatMap.1 q
      have hkl := (low_kids hw).2 k hk
      have h1 := twalk_path l m _ k (by omega) hkl s hs2
      have h2 := low_name hkl
      have h3 := trimS_le p
      unfold joinP at h1
      simp only [List.length_append, List.length_singleton] at h1
      omega
theorem tWalk_path {t : Tr} (h : tLow t = true) : ∀ s ∈ tWalk t, s.1.length ≤ 1000 := fun s hs => by
  have := twalk_path 8 12 [47] t (by omega) (low12 h) s hs
  simp only [List.length_singleton] at this
  omega
theorem gmem {α : Type} {l : List α} {i : Nat} {d : α} (h : i < l.length) : l.getD i d ∈ l := by
  rw [List.getD_eq_getElem?_getD, List.getElem?_eq_getElem h]
  exact List.getElem_mem h
def kidsOk (t : Tr) : Prop := ∀ k ∈ t.kids, kidT t k.name = some k ∧ goodN k.name
theorem walk_found (r : Tr) : ∀ (l : Nat) (t : Tr) (ns : List (List UInt8)), (∀ x ∈ ns, goodN x) → ns.length + l ≤ 8 → walkTo r ns = some t → (∀ s ∈ twalk l (pathOf ns) t, kidsOk s.2) → ∀ s ∈ twalk l (pathOf ns) t, findT r s.1 = some s.2
  | 0, t, ns, hg, hl, hw, h0, s, hs => by
    rw [twalk] at hs
    cases hs
  | l + 1, t, ns, hg, hl, hw, h0, s, hs => by
    rw [twalk] at hs h0
    have ht := h0 _ List.mem_cons_self
    rcases List.mem_cons.1 hs with q | q
    · subst q
      unfold findT
      simp only
      rw [partsP_path hg (by omega)]
      exact hw
    · obtain ⟨k, hk, hs2⟩ := List.mem_flatMap.1 q
      obtain ⟨hk1, hk2⟩ := ht k hk
      rw [joinP_path hg] at hs2
      refine walk_found r l k (ns ++ [k.name]) (fun x hx => ?_) (by rw [List.length_append, List.length_singleton]; omega) (walkTo_app ns r t k k.name hw hk1) (fun s' hs' => ?_) s hs2
      · rcases List.mem_append.1 hx with e | e
        · exact hg x e
        · rw [List.mem_singleton.1 e]
          exact hk2
      · refine h0 s' (List.mem_cons_of_mem _ (List.mem_flatMap.2 ⟨k, hk, ?_⟩))
        rw [joinP_path hg]
        exact hs'
theorem finds_allP {t : Tr} (h : ∀ s ∈ tWalk t, kidsOk s.2) : ∀ s ∈ tWalk t, findT t s.1 = some s.2 :=
  fun s hs => walk_found t 8 t [] (fun _ q => nomatch q) (Nat.le_refl _) rfl h s hs
def kname (ks : List Tr) (i : Nat) : List UInt8 := (ks.getD i tr0).name
/-- What the first loop has seen of the kids. -/
def seenK (ks : List Tr) (n : Nat) : Prop := ∀ j, j < n → goodN (kname ks j) ∧ ∀ m, m < j → kname ks j ≠ kname ks m
theorem seenK_step {ks : List Tr} {n : Nat} (h : seenK ks n) (hg : goodN (kname ks n)) (hm : ∀ m, m < n → kname ks n ≠ kname ks m) : seenK ks (n + 1) := fun j hj => by
  by_cases e : j = n
  · rw [e]
    exact ⟨hg, hm⟩
  · exact h j (by omega)
theorem kidsOk_of {t : Tr} (h : seenK t.kids t.kids.length) : kidsOk t := fun k hk => by
  obtain ⟨j, hj, rfl⟩ := List.mem_iff_getElem.1 hk
  have hn : ∀ i (hi : i < t.kids.length), kname t.kids i = (t.kids[i]).name := fun i hi => by
    unfold kname
    rw [List.getD_eq_getElem?_getD, List.getElem?_eq_getElem hi]
    rfl
  have hh := h j hj
  rw [hn j hj] at hh
  refine ⟨?_, hh.1⟩
  unfold kidT
  rw [List.find?_eq_some_iff_getElem]
  refine ⟨by simp [nameIs], j, hj, rfl, fun i hi => ?_⟩
  have := hh.2 i hi
  rw [hn i (by omega)] at this
  simp only [nameIs, Bool.not_eq_true', decide_eq_false_iff_not]
  exact fun e => this e.symm
theorem partsP_one {n : List UInt8} {ns : List (List UInt8)} (h : partsP (47 :: n) = some ns) (h1 : ns.length = 1) : goodN n := by
  rw [← List.singleton_append] at h
  unfold partsP at h
  by_cases h0 : n = []
  · subst h0
    have h : some [] = some ns := h
    obtain rfl := Option.some.inj h
    cases h1
  · rw [if_neg (by rw [List.singleton_append]; simp [h0]), if_pos (by rfl), scan_split _ _ _ (by simp), List.nil_append] at h
    have e : ([47] ++ n).drop 1 = n := rfl
    rw [e] at h
    split at h
    · obtain rfl := Option.some.inj h
      rw [split_len] at h1
      exact ⟨h0, List.count_eq_zero.1 (by omega)⟩
    · cases h
theorem splitA_ne (c : UInt8) : ∀ (l acc : List UInt8), splitA c acc l ≠ []
  | [], acc => by simp [splitA]
  | b :: l, acc => by
    rw [splitA]
    split
    · simp
    · exact splitA_ne c l _
theorem splitA_join (c : UInt8) : ∀ (l acc : List UInt8), Lib.join (splitA c acc l) [c] = acc ++ l
  | [], acc => by simp [splitA, Lib.join_cons, Lib.joinTail]
  | b :: l, acc => by
    rw [splitA]
    by_cases h : b = c
    · rw [if_pos h, Lib.join_cons]
      have ih := splitA_join c l []
      obtain ⟨x, r, e⟩ := List.exists_cons_of_ne_nil (splitA_ne c l [])
      rw [e] at ih ⊢
      rw [Lib.join_cons] at ih
      have h3 : Lib.joinTail [c] (x :: r) = ([c] ++ x) ++ Lib.joinTail [c] r := by simp [Lib.joinTail]
      rw [h3, List.append_assoc, ih, h]
      rfl
    · rw [if_neg h, splitA_join c l, List.append_assoc]
      rfl
end Go.Proofs.YtfiihgaohihppaaDoor.AL

