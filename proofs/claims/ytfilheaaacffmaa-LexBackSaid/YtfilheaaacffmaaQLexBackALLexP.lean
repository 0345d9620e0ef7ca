/- The lexemes of a source in plain lists, and what holds of them. -/
import Derived.Lib.IndexMore
set_option linter.unusedSimpArgs false
set_option linter.unusedVariables false
namespace Go.Proofs.Ytfilheaaacffmaa.AL
open Go Go.Proofs
def plainB (c : UInt8) : Bool := ((97 ≤ c && c ≤ 122) || (65 ≤ c && c ≤ 90) || (48 ≤ c && c ≤ 57)) || [44, 46, 95, 43, 45, 63, 35, 64].contains c
def blankB (c : UInt8) : Bool := [32, 9, 10, 13].contains c
def signB (c : UInt8) : Bool := [123, 125, 60, 62, 91, 93, 61, 59, 58, 38, 47].contains c
def prinB (c : UInt8) : Bool := 32 ≤ c && c ≤ 126
def lns (l : List UInt8) : Nat := l.count 10
/-- What is behind a remark's end, and whether it ends. -/
def endOf : List UInt8 → List UInt8 × Bool
  | [] => ([], false)
  | c :: r => if c = 42 ∧ r.head? = some 47 then (r.tail, true) else endOf r
theorem endOf_le : ∀ l : List UInt8, (endOf l).1.length ≤ l.length
  | [] => Nat.le_refl _
  | c :: r => by
    rw [endOf]
    split
    · rw [List.length_tail, List.length_cons]; omega
    · have := endOf_le r
      rw [List.length_cons]; omega
theorem dropWhile_le (p : UInt8 → Bool) : ∀ l : List UInt8, (l.dropWhile p).length ≤ l.length
  | [] => Nat.le_refl _
  | c :: r => by
    rw [List.dropWhile_cons]
    have := dropWhile_le p r
    split
    · rw [List.length_cons]; omega
    · exact Nat.le_refl _
/-- What is behind what stands between lexemes; false: a remark does not end. -/
def skipF : Nat → List UInt8 → List UInt8 × Bool
  | 0, l => (l, true)
  | _ + 1, [] => ([], true)
  | n + 1, c :: r =>
    if blankB c = true then skipF n r
    else if c = 47 ∧ r.head? = some 47 then skipF n (r.dropWhile (· != 10))
    else if c = 47 ∧ r.head? = some 42 then (if (endOf r.tail).2 = true then skipF n (endOf r.tail).1 else (c :: r, false))
    else (c :: r, true)
def skipL (l : List UInt8) : List UInt8 × Bool := skipF l.length l
theorem skipF_more : ∀ (n m : Nat) (l : List UInt8), l.length ≤ n → l.length ≤ m → skipF n l = skipF m l
  | 0, 0, l, _, _ => rfl
  | 0, m + 1, [], _, _ => rfl
  | n + 1, 0, [], _, _ => rfl
  | n + 1, m + 1, [], _, _ => rfl
  | 0, m + 1, c :: r, h, _ => by simp at h
  | n + 1, 0, c :: r, _, h => by simp at h
  | n + 1, m + 1, c :: r, h1, h2 => by
    simp only [List.length_cons] at h1 h2
    have e1 := skipF_more n m r (by omega) (by omega)
    have l2 := dropWhile_le (· != 10) r
    have e2 := skipF_more n m (r.dropWhile (· != 10)) (by omega) (by omega)
    have l3 := endOf_le r.tail
    rw [List.length_tail] at l3
    have e3 := skipF_more n m (endOf r.tail).1 (by omega) (by omega)
    rw [skipF, skipF, e1, e2, e3]
theorem skip_nil : skipL [] = ([], true) := rfl
theorem skip_cons (c : UInt8) (r : List UInt8) : skipL (c :: r) =
    if blankB c = true then skipL r
    else if c = 47 ∧ r.head? = some 47 then skipL (r.dropWhile (· != 10))
    else if c = 47 ∧ r.head? = some 42 then (if (endOf r.tail).2 = true then skipL (endOf r.tail).1 else (c :: r, false))
    else (c :: r, true) := by
  have l2 := dropWhile_le (· != 10) r
  have l3 := endOf_le r.tail
  rw [List.length_tail] at l3
  unfold skipL
  rw [List.length_cons, skipF, skipF_more r.length (r.dropWhile (· != 10)).length _ l2 (Nat.le_refl _), skipF_more r.length (endOf r.tail).1.length _ (by omega) (Nat.le_refl _)]
theorem skip_le (l : List UInt8) : (skipL l).1.length ≤ l.length := by
  have : ∀ n, ∀ l : List UInt8, l.length ≤ n → (skipL l).1.length ≤ l.length := by
    intro n
    induction n with
    | zero =>
      intro l h
      obtain rfl := List.length_eq_zero_iff.1 (Nat.le_zero.1 h)
      exact Nat.le_refl _
    | succ n ih =>
      intro l h
      cases l with
      | nil => exact Nat.le_refl _
      | cons c r =>
        rw [List.length_cons] at h
        have l2 := dropWhile_le (· != 10) r
        have l3 := endOf_le r.tail
        rw [List.length_tail] at l3
        have e1 := ih r (by omega)
        have e2 := ih (r.dropWhile (· != 10)) (by omega)
        have e3 := ih (endOf r.tail).1 (by omega)
        rw [skip_cons, List.length_cons]
        split
        · omega
        split
        · omega
        split
        · split
          · omega
          · rw [List.length_cons]; exact Nat.le_refl _
        · rw [List.length_cons]; exact Nat.le_refl _
  exact this _ l (Nat.le_refl _)
/-- A digit to the base 16. -/
def digN (c : UInt8) : Option Nat := if 48 ≤ c ∧ c ≤ 57 then some (c.toNat - 48) else if 97 ≤ c ∧ c ≤ 102 then some (c.toNat - 87) else none
def hex2 (a b : UInt8) : Option UInt8 := match digN a, digN b with
  | some x, some y => some (UInt8.ofNat (16 * x + y))
  | _, _ => none
def codeL : Option UInt8 → Option (UInt8 × Nat)
  | some x => if x = 0 then none else some (x, 3)
  | none => none
/-- The byte that a text goes on with, and how many more bytes than one tell it. -/
def oneL : List UInt8 → Option (UInt8 × Nat)
  | [] => none
  | c :: r =>
    if prinB c = false then none
    else if c ≠ 92 then some (c, 0)
    else if r.head? = some 34 ∨ r.head? = some 92 then some (r.headD 0, 1)
    else if 3 ≤ r.length ∧ r.getD 0 0 = 120 then codeL (hex2 (r.getD 1 0) (r.getD 2 0))
    else none
/-- What a text says, and what is behind it. -/
def textF : Nat → List UInt8 → List UInt8 → Option (List UInt8 × List UInt8)
  | 0, _, _ => none
  | _ + 1, _, [] => none
  | n + 1, acc, c :: r => if c = 34 then some (acc, r) else match oneL (c :: r) with
    | none => none
    | some (b, m) => textF n (acc ++ [b]) (r.drop m)
def textL (acc l : List UInt8) : Option (List UInt8 × List UInt8) := textF (l.length + 1) acc l
theorem textF_more : ∀ (n m : Nat) (acc l : List UInt8), l.length < n → l.length < m → textF n acc l = textF m acc l
  | 0, m, acc, l, h, _ => absurd h (Nat.not_lt_zero _)
  | n + 1, 0, acc, l, _, h => absurd h (Nat.not_lt_zero _)
  | n + 1, m + 1, acc, [], _, _ => rfl
  | n + 1, m + 1, acc, c :: r, h1, h2 => by
    simp only [List.length_cons] at h1 h2
    rw [textF, textF]
    split
    · rfl
    · cases oneL (c :: r) with
      | none => rfl
      | some p => exact textF_more n m _ _ (by rw [List.length_drop]; omega) (by rw [List.length_drop]; omega)
theorem text_nil (acc : List UInt8) : textL acc [] = none := rfl
theorem text_cons (acc : List UInt8) (c : UInt8) (r : List UInt8) : textL acc (c :: r) = if c = 34 then some (acc, r) else match oneL (c :: r) with
    | none => none
    | some (b, m) => textL (acc ++ [b]) (r.drop m) := by
  unfold textL
  rw [List.length_cons, textF]
  split
  · rfl
  · cases oneL (c :: r) with
    | none => rfl
    | some p => exact textF_more _ _ _ _ (by rw [List.length_drop]; omega) (by rw [List.length_drop]; omega)
theorem text_lt : ∀ (n : Nat) (acc l : List UInt8) (t q : List UInt8), l.length ≤ n → textL acc l = some (t, q) → q.length < l.length
  | _, acc, [], t, q, _, h => by rw [text_nil] at h; cases h
  | 0, acc, c :: r, t, q, hn, h => by simp at hn
  | n + 1, acc, c :: r, t, q, hn, h => by
    rw [text_cons] at h
    rw [List.length_cons] at hn ⊢
    split at h
    · cases h; omega
    · cases ho : oneL (c :: r) with
      | none => rw [ho] at h; cases h
      | some p =>
        rw [ho] at h
        have := text_lt n _ _ t q (by rw [List.length_drop]; omega) h
        rw [List.length_drop] at this
        omega
/-- A lexeme: kind, what it says, line. -/
def tokL : List UInt8 → Option (Nat × List UInt8 × List UInt8)
  | [] => none
  | c :: r =>
    if c = 34 then (textL [] r).map (fun p => (2, p.1, p.2))
    else if signB c = true then some (3, [c], r)
    else if plainB c = true then some (1, c :: r.takeWhile plainB, r.dropWhile plainB)
    else none
theorem tok_lt {l t q : List UInt8} {k : Nat} (h : tokL l = some (k, t, q)) : q.length < l.length := by
  cases l with
  | nil => cases h
  | cons c r =>
    rw [tokL] at h
    rw [List.length_cons]
    split at h
    · obtain ⟨p, hp, e⟩ := Option.map_eq_some_iff.1 h
      cases e
      have := text_lt _ [] r p.1 p.2 (Nat.le_refl _) hp
      omega
    split at h
    · cases h; omega
    split at h
    · cases h
      have := dropWhile_le plainB r
      omega
    · cases h
/-- The lexemes of a source, or the line on which it goes wrong, and why (6 and 7: it is none; there are too many). -/
def readF : Nat → Nat → List (Nat × List UInt8 × Nat) → List UInt8 → List (Nat × List UInt8 × Nat) × Nat × Nat
  | 0, ln, out, l => (out, 0, 0)
  | n + 1, ln, out, l =>
    let ln' := ln + (lns l - lns (skipL l).1)
    if (skipL l).2 = false then ([], ln', 6)
    else if (skipL l).1 = [] then (out, 0, 0)
    else if out.length = 4096 then ([], ln', 7)
    else match tokL (skipL l).1 with
      | none => ([], ln', 6)
      | some (k, t, q) => readF n ln' (out ++ [(k, t, ln')]) q
def readL (ln : Nat) (out : List (Nat × List UInt8 × Nat)) (l : List UInt8) : List (Nat × List UInt8 × Nat) × Nat × Nat := readF (l.length + 1) ln out l
theorem readF_more : ∀ (n m : Nat) (ln : Nat) (out : List (Nat × List UInt8 × Nat)) (l : List UInt8), l.length < n → l.length < m → readF n ln out l = readF m ln out l
  | 0, m, ln, out, l, h, _ => absurd h (Nat.not_lt_zero _)
  | n + 1, 0, ln, out, l, _, h => absurd h (Nat.not_lt_zero _)
  | n + 1, m + 1, ln, out, l, h1, h2 => by
    rw [readF, readF]
    split
    · rfl
    split
    · rfl
    split
    · rfl
    cases ht : tokL (skipL l).1 with
    | none => rfl
    | some p =>
      obtain ⟨k, t, q⟩ := p
      have e1 := tok_lt ht
      have e2 := skip_le l
      exact readF_more n m _ _ _ (by omega) (by omega)
theorem read_eq (ln : Nat) (out : List (Nat × List UInt8 × Nat)) (l : List UInt8) : readL ln out l =
    if (skipL l).2 = false then ([], ln + (lns l - lns (skipL l).1), 6)
    else if (skipL l).1 = [] then (out, 0, 0)
    else if out.length = 4096 then ([], ln + (lns l - lns (skipL l).1), 7)
    else match tokL (skipL l).1 with
      | none => ([], ln + (lns l - lns (skipL l).1), 6)
      | some (k, t, q) => readL (ln + (lns l - lns (skipL l).1)) (out ++ [(k, t, ln + (lns l - lns (skipL l).1))]) q := by
  unfold readL
  rw [readF]
  split
  · rfl
  split
  · rfl
  split
  · rfl
  cases ht : tokL (skipL l).1 with
  | none => rfl
  | some p =>
    obtain ⟨k, t, q⟩ := p
    have e1 := tok_lt ht
    have e2 := skip_le l
    exact readF_more _ _ _ _ _ (by omega) (by omega)
/-! ### two sources -/
theorem one_app {c : UInt8} {r : List UInt8} {b : UInt8} {m : Nat} (y : List UInt8) (h : oneL (c :: r) = some (b, m)) : oneL (c :: (r ++ y)) = some (b, m) ∧ m ≤ r.length := by
  rw [oneL] at h ⊢
  split at h
  · cases h
  rename_i h1
  rw [if_neg h1]
  split at h
  · rename_i h2
    cases h
    rw [if_pos h2]
    exact ⟨rfl, Nat.zero_le _⟩
  rename_i h2
  rw [if_neg h2]
  cases r with
  | nil => simp at h
  | cons d r =>
    split at h
    · rename_i h3
      cases h
      rw [if_pos (by simpa using h3)]
      exact ⟨rfl, by simp⟩
    rename_i h3
    rw [if_neg (by simpa using h3)]
    split at h
    · rename_i h4
      match r, h, h4 with
      | [], h, h4 => simp at h4
      | [a], h, h4 => simp at h4
      | a :: b2 :: r, h, h4 =>
        rw [if_pos ⟨by simp, h4.2⟩]
        refine ⟨h, ?_⟩
        cases hx : hex2 a b2 with
        | none => simp [codeL, hx] at h
        | some x =>
          simp only [codeL, hx, List.getD_cons_succ, List.getD_cons_zero] at h
          split at h
          · cases h
          · cases h; simp
    · cases h
theorem takeWhile_stop {p : UInt8 → Bool} {y : List UInt8} (hy : ∀ c, y.head? = some c → p c = false) : ∀ r : List UInt8, (r ++ y).takeWhile p = r.takeWhile p ∧ (r ++ y).dropWhile p = r.dropWhile p ++ y
  | [] => by
    cases y with
    | nil => exact ⟨rfl, rfl⟩
    | cons c y =>
      have := hy c rfl
      simp [List.takeWhile_cons, List.dropWhile_cons, this]
  | c :: r => by
    obtain ⟨h1, h2⟩ := takeWhile_stop hy r
    rw [List.cons_append, List.takeWhile_cons, List.takeWhile_cons, List.dropWhile_cons, List.dropWhile_cons, h1, h2]
    split <;> exact ⟨rfl, rfl⟩
theorem lns_app (a b : List UInt8) : lns (a ++ b) = lns a + lns b := List.count_append
theorem lns_cons (c : UInt8) (b : List UInt8) : lns (c :: b) = lns b + if c = 10 then 1 else 0 := by
  unfold lns
  rw [List.count_cons]
  simp
theorem lns_take (n : Nat) (l : List UInt8) : lns (l.take n) + lns (l.drop n) = lns l := by
  rw [← lns_app, List.take_append_drop]
theorem lns_drop_le (n : Nat) (l : List UInt8) : lns (l.drop n) ≤ lns l := by
  have := lns_take n l
  omega
theorem lns_tail_le (l : List UInt8) : lns l.tail ≤ lns l := by
  rw [← List.drop_one]
  exact lns_drop_le 1 l
theorem lns_while (p : UInt8 → Bool) : ∀ l : List UInt8, lns (l.dropWhile p) ≤ lns l
  | [] => Nat.le_refl _
  | c :: r => by
    have := lns_while p r
    rw [List.dropWhile_cons]
    split
    · rw [lns_cons]; omega
    · exact Nat.le_refl _
theorem lns_endOf : ∀ l : List UInt8, lns (endOf l).1 ≤ lns l
  | [] => Nat.le_refl _
  | c :: r => by
    have := lns_endOf r
    have := lns_tail_le r
    rw [endOf, lns_cons]
    split
    · show lns r.tail ≤ _; omega
    · omega
theorem skip_lns : ∀ (n : Nat) (l : List UInt8), l.length ≤ n → lns (skipL l).1 ≤ lns l
  | _, [], _ => Nat.le_refl _
  | 0, c :: r, hn => by simp at hn
  | n + 1, c :: r, hn => by
    rw [List.length_cons] at hn
    have l2 := dropWhile_le (· != 10) r
    have l3 := endOf_le r.tail
    rw [List.length_tail] at l3
    have e1 := skip_lns n r (by omega)
    have e2 := skip_lns n (r.dropWhile (· != 10)) (by omega)
    have e3 := skip_lns n (endOf r.tail).1 (by omega)
    have f1 := lns_cons c r
    have f2 := lns_while (· != 10) r
    have f3 := lns_endOf r.tail
    have f4 := lns_tail_le r
    rw [skip_cons]
    split
    · omega
    split
    · omega
    split
    · split
      · omega
      · exact Nat.le_refl _
    · exact Nat.le_refl _
theorem one_prin {l : List UInt8} {b : UInt8} {m : Nat} (h : oneL l = some (b, m)) : lns (l.take (m + 1)) = 0 := by
  cases l with
  | nil => cases h
  | cons c r =>
    have hp : prinB c = true → c ≠ 10 := by rintro h rfl; revert h; decide
    have hd : ∀ d, (digN d).isSome = true → d ≠ 10 := by rintro d h rfl; revert h; decide
    rw [oneL] at h
    split at h
    · cases h
    rename_i h1
    have hc : c ≠ 10 := hp (by simpa using h1)
    split at h
    · cases h
      simp [lns, List.count_cons, hc]
    split at h
    · rename_i h3
      cases h
      cases r with
      | nil => simp at h3
      | cons d r =>
        have : d ≠ 10 := by rintro rfl; simp at h3
        simp [lns, List.count_cons, hc, this]
    rename_i h3
    split at h
    · rename_i h4
      match r, h, h4 with
      | [], h, h4 => simp at h4
      | [a], h, h4 => simp at h4
      | [a, a2], h, h4 => simp at h4
      | d :: a :: a2 :: r, h, h4 =>
        have hd120 : d = 120 := h4.2
        subst hd120
        simp only [List.getD_cons_succ, List.getD_cons_zero] at h
        cases hx : hex2 a a2 with
        | none => rw [hx] at h; cases h
        | some x =>
          rw [hx] at h
          have ha : a ≠ 10 ∧ a2 ≠ 10 := by
            unfold hex2 at hx
            cases e1 : digN a with
            | none => rw [e1] at hx; cases hx
            | some x1 =>
              cases e2 : digN a2 with
              | none => rw [e1, e2] at hx; cases hx
              | some x2 => exact ⟨hd a (by rw [e1]; rfl), hd a2 (by rw [e2]; rfl)⟩
          rw [codeL] at h
          split at h
          · cases h
          · cases h
            simp [lns, List.count_cons, hc, ha.1, ha.2]
    · cases h
theorem text_lns : ∀ (n : Nat) {acc l t q : List UInt8}, l.length ≤ n → textL acc l = some (t, q) → lns q = lns l
  | _, acc, [], t, q, _, h => by rw [text_nil] at h; cases h
  | 0, acc, c :: r, t, q, hn, h => by simp at hn
  | n + 1, acc, c :: r, t, q, hn, h => by
    rw [List.length_cons] at hn
    rw [text_cons] at h
    split at h
    · rename_i h1
      cases h
      rw [lns_cons, h1]
      simp
    cases ho : oneL (c :: r) with
    | none => rw [ho] at h; cases h
    | some p =>
      obtain ⟨b, m⟩ := p
      rw [ho] at h
      have e := text_lns n (by rw [List.length_drop]; omega) h
      have e1 := one_prin ho
      have e2 := lns_take (m + 1) (c :: r)
      rw [List.drop_succ_cons] at e2
      omega
theorem plain_ten {c : UInt8} (h : plainB c = true) : c ≠ 10 := by rintro rfl; revert h; decide
theorem sign_ten {c : UInt8} (h : signB c = true) : c ≠ 10 := by rintro rfl; revert h; decide
theorem word_lns : ∀ r : List UInt8, lns (r.dropWhile plainB) = lns r
  | [] => rfl
  | c :: r => by
    rw [List.dropWhile_cons]
    split
    · rename_i h
      rw [word_lns r, lns_cons, if_neg (plain_ten h)]
      rfl
    · rfl
theorem tok_lns {l t q : List UInt8} {k : Nat} (h : tokL l = some (k, t, q)) : lns q = lns l := by
  cases l with
  | nil => cases h
  | cons c r =>
    rw [tokL] at h
    rw [lns_cons]
    split at h
    · rename_i h1
      obtain ⟨p, hp, e⟩ := Option.map_eq_some_iff.1 h
      cases e
      rw [text_lns _ (Nat.le_refl _) hp, h1]
      simp
    split at h
    · rename_i h2
      cases h
      rw [if_neg (sign_ten h2)]
      rfl
    split at h
    · rename_i h3
      cases h
      rw [if_neg (plain_ten h3), word_lns]
      rfl
    · cases h
end Go.Proofs.Ytfilheaaacffmaa.AL

