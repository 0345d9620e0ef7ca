/- What is put is read as it was; what is read may be put. -/
import Derived.Test.YtfilheaaacffmaaQLexBackALLex10
set_option linter.unusedSimpArgs false
set_option linter.unusedVariables false
set_option maxRecDepth 100000
set_option maxHeartbeats 16000000
namespace Go.Proofs.Ytfilheaaacffmaa.AL
open Go Go.Proofs
theorem u8_all {p : UInt8 → Bool} (h : ((List.range 256).all fun n => p (UInt8.ofNat n)) = true) (c : UInt8) : p c = true := by
  have := List.all_eq_true.1 h c.toNat (List.mem_range.2 c.toNat_lt)
  simpa using this
theorem plain_not {c : UInt8} (h : plainB c = true) : blankB c = false ∧ signB c = false ∧ c ≠ 47 ∧ c ≠ 34 := by
  have := u8_all (p := fun c => !plainB c || (!blankB c && !signB c && decide (c ≠ 47) && decide (c ≠ 34))) (by decide +kernel) c
  rw [h] at this
  simp only [Bool.not_true, Bool.false_or, Bool.and_eq_true, Bool.not_eq_true', decide_eq_true_eq] at this
  exact ⟨this.1.1.1, this.1.1.2, this.1.2, this.2⟩
theorem sign_not {c : UInt8} (h : signB c = true) : blankB c = false ∧ c ≠ 34 := by
  have := u8_all (p := fun c => !signB c || (!blankB c && decide (c ≠ 34))) (by decide +kernel) c
  rw [h] at this
  simp only [Bool.not_true, Bool.false_or, Bool.and_eq_true, Bool.not_eq_true', decide_eq_true_eq] at this
  exact this
theorem hex_back (c : UInt8) : hex2 (hexD (c.toNat / 16)) (hexD (c.toNat % 16)) = some c := by
  have hc := c.toNat_lt
  unfold hex2
  rw [dig_hexD (by omega), dig_hexD (by omega)]
  simp only
  rw [show 16 * (c.toNat / 16) + c.toNat % 16 = c.toNat by omega]
  simp
theorem text_quot (z : List UInt8) : ∀ (t acc : List UInt8), t.contains 0 = false → textL acc (t.flatMap quotB ++ 34 :: z) = some (acc ++ t, z)
  | [], acc, _ => by
    rw [List.flatMap_nil, List.nil_append, text_cons, if_pos rfl, List.append_nil]
  | c :: t, acc, h => by
    rw [List.contains_cons, Bool.or_eq_false_iff] at h
    have ih := text_quot z t (acc ++ [c]) h.2
    rw [List.append_assoc] at ih
    have hc0 : c ≠ 0 := fun e => by have := h.1; rw [e] at this; revert this; decide
    rw [List.flatMap_cons, List.append_assoc]
    generalize List.flatMap quotB t ++ 34 :: z = u at *
    unfold quotB
    by_cases c1 : c = 34
    · subst c1
      rw [if_pos (.inl rfl)]
      rw [show ([92, 34] : List UInt8) ++ u = 92 :: 34 :: u from rfl, text_cons, if_neg (by decide), oneL, if_neg (by decide), if_neg (by decide), if_pos (.inl rfl)]
      exact ih
    by_cases c2 : c = 92
    · subst c2
      rw [if_pos (.inr rfl)]
      rw [show ([92, 92] : List UInt8) ++ u = 92 :: 92 :: u from rfl, text_cons, if_neg (by decide), oneL, if_neg (by decide), if_neg (by decide), if_pos (.inr rfl)]
      exact ih
    rw [if_neg (by rintro (q | q); exact c1 q; exact c2 q)]
    by_cases c3 : prinB c = true
    · rw [if_pos c3, show [c] ++ u = c :: u from rfl, text_cons, if_neg c1, oneL, if_neg (by rw [c3]; simp), if_pos c2]
      exact ih
    · rw [if_neg c3, hexs, show ([92, 120] ++ [hexD (c.toNat / 16), hexD (c.toNat % 16)]) ++ u = 92 :: 120 :: hexD (c.toNat / 16) :: hexD (c.toNat % 16) :: u from rfl, text_cons, if_neg (by decide), oneL, if_neg (by decide), if_neg (by decide), if_neg (by rw [List.head?_cons]; decide), if_pos ⟨by simp, rfl⟩, List.getD_cons_succ, List.getD_cons_zero, List.getD_cons_succ, List.getD_cons_succ, List.getD_cons_zero, hex_back, codeL, if_neg hc0]
      exact ih
/-- What stands behind a lexeme that was put. -/
def Gap (z : List UInt8) : Prop := z = [] ∨ z.head? = some 32
theorem gap_plain {z : List UInt8} (h : Gap z) : ∀ c, z.head? = some c → plainB c = false := by
  intro c hc
  rcases h with rfl | h
  · cases hc
  · rw [h] at hc
    cases hc
    decide
theorem takeWhile_all {p : UInt8 → Bool} : ∀ r : List UInt8, r.all p = true → r.takeWhile p = r ∧ r.dropWhile p = []
  | [], _ => ⟨rfl, rfl⟩
  | c :: r, h => by
    rw [List.all_cons, Bool.and_eq_true] at h
    obtain ⟨h1, h2⟩ := takeWhile_all r h.2
    rw [List.takeWhile_cons, if_pos h.1, List.dropWhile_cons, if_pos h.1, h1, h2]
    exact ⟨rfl, rfl⟩
theorem put_tok {x : Int × List UInt8 × Int} (h : mayX x = true) {z : List UInt8} (hz : Gap z) : skipL (writX x ++ z) = (writX x ++ z, true) ∧ tokL (writX x ++ z) = some (x.1.toNat, x.2.1, z) ∧ writX x ++ z ≠ [] ∧ ((x.1.toNat : Nat) : Int) = x.1 := by
  obtain ⟨k, t, n⟩ := x
  unfold mayX at h
  unfold writX
  simp only at h ⊢
  by_cases k1 : k = 1
  · subst k1
    rw [if_pos rfl] at h
    rw [if_neg (by decide)]
    unfold wordB at h
    rw [Bool.and_eq_true, decide_eq_true_eq] at h
    obtain ⟨c, r, rfl⟩ := List.exists_cons_of_ne_nil h.1
    have ha := h.2
    rw [List.all_cons, Bool.and_eq_true] at ha
    obtain ⟨p1, p2, p3, p4⟩ := plain_not ha.1
    obtain ⟨q1, q2⟩ := takeWhile_all r ha.2
    obtain ⟨s1, s2⟩ := takeWhile_stop (gap_plain hz) r
    refine ⟨?_, ?_, by simp, rfl⟩
    · rw [List.cons_append, skip_cons, if_neg (by rw [p1]; simp), if_neg (fun q => p3 q.1), if_neg (fun q => p3 q.1)]
    · rw [List.cons_append, tokL, if_neg p4, if_neg (by rw [p2]; simp), if_pos ha.1, s1, s2, q1, q2]
      rfl
  rw [if_neg k1] at h
  by_cases k2 : k = 2
  · subst k2
    rw [if_pos rfl] at h
    rw [if_pos rfl, quotL]
    refine ⟨?_, ?_, by simp, rfl⟩
    · rw [List.cons_append, skip_cons, if_neg (by decide), if_neg (fun q => absurd q.1 (by decide)), if_neg (fun q => absurd q.1 (by decide))]
    · rw [List.cons_append, tokL, if_pos rfl, List.append_assoc, List.singleton_append, text_quot z t [] (by simpa using h)]
      rfl
  rw [if_neg k2] at h
  by_cases k3 : k = 3
  · subst k3
    rw [if_pos rfl, Bool.and_eq_true, decide_eq_true_eq] at h
    rw [if_neg (by decide)]
    obtain ⟨c, rfl⟩ := List.length_eq_one_iff.1 h.1
    have hs : signB c = true := by simpa using h.2
    obtain ⟨p1, p2⟩ := sign_not hs
    have hh : ∀ d : UInt8, d ≠ 32 → ¬ (c = 47 ∧ z.head? = some d) := by
      rintro d hd ⟨_, q⟩
      rcases hz with rfl | hz
      · cases q
      · rw [hz] at q
        cases q
        exact hd rfl
    refine ⟨?_, ?_, by simp, rfl⟩
    · rw [List.singleton_append, skip_cons, if_neg (by rw [p1]; simp), if_neg (hh 47 (by decide)), if_neg (hh 42 (by decide))]
    · rw [List.singleton_append, tokL, if_neg p2, if_pos hs]
      rfl
  rw [if_neg k3] at h
  cases h
theorem read_blank (ln : Nat) (out : List (Nat × List UInt8 × Nat)) (u : List UInt8) : readL ln out (32 :: u) = readL ln out u := by
  have hsk : skipL (32 :: u) = skipL u := by rw [skip_cons, if_pos (by decide)]
  have hln : lns (32 :: u) = lns u := by rw [lns_cons]; simp
  rw [read_eq, read_eq ln out u, hsk, hln]
def asRead (ln : Nat) (x : Int × List UInt8 × Int) : Nat × List UInt8 × Nat := (x.1.toNat, x.2.1, ln)
theorem read_put (ln : Nat) : ∀ (r : List (Int × List UInt8 × Int)) (x : Int × List UInt8 × Int) (out : List (Nat × List UInt8 × Nat)), mayX x = true → r.all mayX = true → out.length + r.length < 4096 → readL ln out (writX x ++ Lib.joinTail [32] (r.map writX)) = (out ++ asRead ln x :: r.map (asRead ln), 0, 0)
  | [], x, out, hx, _, hn => by
    have e : Lib.joinTail [32] ([].map writX) = [] := rfl
    obtain ⟨h1, h2, h3, _⟩ := put_tok hx (z := []) (.inl rfl)
    rw [e, read_eq, h1]
    simp only
    rw [if_neg (by simp), if_neg h3, if_neg (by simp at hn; omega), h2]
    simp only [Nat.sub_self, Nat.add_zero]
    rw [read_eq, skip_nil]
    rfl
  | y :: r, x, out, hx, hr, hn => by
    rw [List.all_cons, Bool.and_eq_true] at hr
    have e : Lib.joinTail [32] ((y :: r).map writX) = 32 :: (writX y ++ Lib.joinTail [32] (r.map writX)) := by
      simp [Lib.joinTail]
    obtain ⟨h1, h2, h3, _⟩ := put_tok hx (z := 32 :: (writX y ++ Lib.joinTail [32] (r.map writX))) (.inr rfl)
    rw [List.length_cons] at hn
    rw [e, read_eq, h1]
    simp only
    rw [if_neg (by simp), if_neg h3, if_neg (by omega), h2]
    simp only [Nat.sub_self, Nat.add_zero]
    rw [read_blank, read_put ln r y _ hr.1 hr.2 (by rw [List.length_append, List.length_singleton]; omega), List.append_assoc]
    rfl
/-- What is put is read as it was. -/
theorem read_of_put {l : List (Int × List UInt8 × Int)} (hm : l.all mayX = true) (hn : l.length ≤ 4096) : readL 1 [] (Lib.join (l.map writX) [32]) = (l.map (asRead 1), 0, 0) := by
  cases l with
  | nil => rfl
  | cons x r =>
    rw [List.all_cons, Bool.and_eq_true] at hm
    rw [List.length_cons] at hn
    rw [List.map_cons, Lib.join_cons, read_put 1 r x [] hm.1 hm.2 (by rw [List.length_nil]; omega), List.nil_append]
    rfl
theorem one_not0 {l : List UInt8} {b : UInt8} {m : Nat} (h : oneL l = some (b, m)) : b ≠ 0 := by
  cases l with
  | nil => cases h
  | cons c r =>
    rw [oneL] at h
    split at h
    · cases h
    rename_i h1
    split at h
    · cases h
      rintro rfl
      exact h1 (by decide)
    split at h
    · rename_i h3
      cases h
      cases r with
      | nil => simp at h3
      | cons d r =>
        rintro e
        rw [List.headD_cons] at e
        subst e
        simp at h3
    split at h
    · cases hx : hex2 (r.getD 1 0) (r.getD 2 0) with
      | none => rw [hx] at h; cases h
      | some x =>
        rw [hx, codeL] at h
        split at h
        · cases h
        · rename_i h5
          cases h
          exact h5
    · cases h
theorem text_not0 : ∀ (n : Nat) {acc l t q : List UInt8}, l.length ≤ n → textL acc l = some (t, q) → acc.contains 0 = false → t.contains 0 = false ∧ t.length ≤ acc.length + l.length
  | _, acc, [], t, q, _, h, _ => by rw [text_nil] at h; cases h
  | 0, acc, c :: r, t, q, hn, h, _ => by simp at hn
  | n + 1, acc, c :: r, t, q, hn, h, ha => by
    rw [List.length_cons] at hn
    rw [text_cons] at h
    split at h
    · cases h
      exact ⟨ha, Nat.le_add_right _ _⟩
    cases ho : oneL (c :: r) with
    | none => rw [ho] at h; cases h
    | some p =>
      obtain ⟨b, m⟩ := p
      rw [ho] at h
      have hb := one_not0 ho
      obtain ⟨e1, e2⟩ := text_not0 n (by rw [List.length_drop]; omega) h (by
        rw [Bool.eq_false_iff]
        intro q
        rw [List.contains_eq_mem, decide_eq_true_eq, List.mem_append, List.mem_singleton] at q
        rw [List.contains_eq_mem, decide_eq_false_iff_not] at ha
        rcases q with q | q
        · exact ha q
        · exact hb q.symm)
      refine ⟨e1, ?_⟩
      rw [List.length_append, List.length_singleton, List.length_drop] at e2
      rw [List.length_cons]
      omega
theorem while_all {p : UInt8 → Bool} : ∀ r : List UInt8, (r.takeWhile p).all p = true
  | [] => rfl
  | c :: r => by
    rw [List.takeWhile_cons]
    split
    · rename_i h
      rw [List.all_cons, h, while_all r]
      rfl
    · rfl
theorem tok_may {l t q : List UInt8} {k ln : Nat} (h : tokL l = some (k, t, q)) : mayX ((k : Int), t, (ln : Int)) = true ∧ t.length ≤ l.length := by
  cases l with
  | nil => cases h
  | cons c r =>
    rw [tokL] at h
    rw [List.length_cons]
    unfold mayX
    split at h
    · obtain ⟨p, hp, e⟩ := Option.map_eq_some_iff.1 h
      cases e
      obtain ⟨e1, e2⟩ := text_not0 _ (Nat.le_refl _) hp rfl
      rw [List.length_nil] at e2
      refine ⟨?_, by omega⟩
      simp only
      rw [if_neg (by decide), if_pos (by decide), e1]
      rfl
    split at h
    · rename_i h2
      cases h
      refine ⟨?_, by simp⟩
      simp only
      rw [if_neg (by decide), if_neg (by decide), if_pos (by decide)]
      simp [h2]
    split at h
    · rename_i h3
      cases h
      refine ⟨?_, ?_⟩
      · simp only
        rw [if_pos (by decide), wordB, List.all_cons, h3, while_all]
        simp
      · have := (List.takeWhile_prefix (l := r) plainB).length_le
        rw [List.length_cons]
        omega
    · cases h
/-- What is read may be put. -/
theorem read_may {b : Nat} : ∀ (n : Nat) {ln : Nat} {out : List (Nat × List UInt8 × Nat)} {l : List UInt8} {m : List (Nat × List UInt8 × Nat)} {a e : Nat}, l.length ≤ n → l.length ≤ b → (∀ x ∈ out, mayX (lxOf x) = true ∧ x.2.1.length ≤ b) → out.length ≤ 4096 → readL ln out l = (m, a, e) → (∀ x ∈ m, mayX (lxOf x) = true ∧ x.2.1.length ≤ b) ∧ m.length ≤ 4096 ∧ (e ≠ 0 → m = [])
  | n, ln, out, l, m, a, e, hn, hb, ho, ho2, h => by
    have hs := skip_le l
    rw [read_eq] at h
    split at h
    · cases h
      exact ⟨fun x hx => (by cases hx), Nat.zero_le _, fun _ => rfl⟩
    split at h
    · cases h
      exact ⟨ho, ho2, fun q => absurd rfl q⟩
    split at h
    · cases h
      exact ⟨fun x hx => (by cases hx), Nat.zero_le _, fun _ => rfl⟩
    rename_i hne
    cases ht : tokL (skipL l).1 with
    | none =>
      rw [ht] at h
      cases h
      exact ⟨fun x hx => (by cases hx), Nat.zero_le _, fun _ => rfl⟩
    | some p =>
      obtain ⟨k, t, q⟩ := p
      rw [ht] at h
      have hq := tok_lt ht
      obtain ⟨e1, e2⟩ := tok_may (ln := ln + (lns l - lns (skipL l).1)) ht
      match n with
      | 0 => omega
      | n + 1 =>
        exact read_may n (b := b) (by omega) (by omega) (fun x hx => by
          rcases List.mem_append.1 hx with q | q
          · exact ho x q
          · obtain rfl := List.mem_singleton.1 q
            exact ⟨e1, by show t.length ≤ b; omega⟩) (by rw [List.length_append, List.length_singleton]; omega) h
end Go.Proofs.Ytfilheaaacffmaa.AL

