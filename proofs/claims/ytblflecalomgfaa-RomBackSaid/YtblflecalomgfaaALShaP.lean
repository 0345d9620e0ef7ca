/- What a sum of bytes is, piece by piece and all at once. -/
import Derived.Test.YtblflecalomgfaaALSha5
set_option linter.unusedSimpArgs false
set_option linter.unusedVariables false
namespace Go.Proofs.Ytblflecalomgfaa.AL
open Go Go.Proofs
/-- What waits, and the eight numbers. -/
structure Abs where
  h : S8
  w : List UInt8
  n : Nat
def absorb (x : Abs) (b : UInt8) : Abs :=
  if x.n + 1 = 64 then ⟨block8 shaK x.h (x.w.set x.n b), x.w.set x.n b, 0⟩ else ⟨x.h, x.w.set x.n b, x.n + 1⟩
def absorbs (x : Abs) (l : List UInt8) : Abs := l.foldl absorb x
theorem absorbs_nil (x : Abs) : absorbs x [] = x := rfl
theorem absorbs_cons (x : Abs) (b : UInt8) (l : List UInt8) : absorbs x (b :: l) = absorbs (absorb x b) l := rfl
theorem absorbs_app (x : Abs) (l m : List UInt8) : absorbs x (l ++ m) = absorbs (absorbs x l) m := by simp [absorbs, List.foldl_append]
structure Abs.ok (x : Abs) : Prop where
  w : x.w.length = 64
  n : x.n < 64
theorem absorb_ok {x : Abs} (h : x.ok) (b : UInt8) : (absorb x b).ok := by
  unfold absorb
  have := h.w
  have := h.n
  split
  · exact ⟨by simp [h.w], by simp⟩
  · exact ⟨by simp [h.w], by simp only; omega⟩
theorem absorbs_ok {x : Abs} (h : x.ok) (l : List UInt8) : (absorbs x l).ok := by
  induction l generalizing x with
  | nil => exact h
  | cons b l ih => exact ih (absorb_ok h b)
/-- Bytes laid over others from a place on. -/
def lay (w : List UInt8) (n : Nat) (c : List UInt8) : List UInt8 := w.take n ++ c ++ w.drop (n + c.length)
theorem lay_nil (w : List UInt8) (n : Nat) : lay w n [] = w := by simp [lay]
theorem lay_len {w c : List UInt8} {n : Nat} (h : n + c.length ≤ w.length) : (lay w n c).length = w.length := by
  simp [lay]; omega
theorem lay_cons {w c : List UInt8} {n : Nat} {b : UInt8} (h : n + c.length < w.length) : lay w n (b :: c) = lay (w.set n b) (n + 1) c := by
  unfold lay
  have h1 : n < w.length := by omega
  rw [List.drop_set, if_pos (by omega), List.take_set, List.length_cons, show n + (c.length + 1) = n + 1 + c.length by omega]
  congr 1
  rw [List.take_add_one, List.getElem?_eq_getElem h1, List.set_append_right _ _ (by simp; omega)]
  simp [Nat.min_eq_left (Nat.le_of_lt h1)]
theorem absorbs_room {x : Abs} {c : List UInt8} (hw : x.w.length = 64) (h : x.n + c.length < 64) : absorbs x c = ⟨x.h, lay x.w x.n c, x.n + c.length⟩ := by
  induction c generalizing x with
  | nil => simp [absorbs_nil, lay_nil]
  | cons b c ih =>
    simp only [List.length_cons] at h
    rw [absorbs_cons, absorb, if_neg (by omega), ih (x := ⟨x.h, x.w.set x.n b, x.n + 1⟩) (by simp [hw]) (by simp only; omega)]
    rw [lay_cons (by omega)]
    simp only [List.length_cons]
    congr 1
    omega
theorem absorbs_full {x : Abs} {c : List UInt8} (hw : x.w.length = 64) (hn : x.n < 64) (h : x.n + c.length = 64) : absorbs x c = ⟨block8 shaK x.h (lay x.w x.n c), lay x.w x.n c, 0⟩ := by
  have hc : c ≠ [] := by rintro rfl; simp at h; omega
  rw [← List.dropLast_concat_getLast hc] at h ⊢
  generalize c.dropLast = m at h ⊢
  generalize c.getLast hc = b at h ⊢
  simp only [List.length_append, List.length_cons, List.length_nil] at h
  rw [absorbs_app, absorbs_room hw (by omega), absorbs_cons, absorbs_nil, absorb, if_pos (by simp only; omega)]
  have e : (lay x.w x.n m).set (x.n + m.length) b = lay x.w x.n (m ++ [b]) := by
    unfold lay
    have h1 : x.n ≤ x.w.length := by omega
    rw [List.set_append_right _ _ (by simp [Nat.min_eq_left h1]), List.length_append, List.length_take, Nat.min_eq_left h1, Nat.sub_self]
    have h2 : x.w.drop (x.n + (m ++ [b]).length) = [] := List.drop_of_length_le (by simp; omega)
    have h3 : (x.w.drop (x.n + m.length)).length = 1 := by simp; omega
    rw [h2]
    match x.w.drop (x.n + m.length), h3 with
    | [y], _ => simp
  simp only [e]
/-- The eight numbers behind blocks. -/
def blocksN : Nat → S8 → List UInt8 → S8
  | 0, x, _ => x
  | n + 1, x, l => blocksN n (block8 shaK x (l.take 64)) (l.drop 64)
theorem absorbs_blocks : ∀ (m : Nat) (x : Abs) (l : List UInt8), x.w.length = 64 → x.n = 0 → l.length = 64 * m → (absorbs x l).h = blocksN m x.h l := by
  intro m
  induction m with
  | zero => intro x l hw hn hl; obtain rfl := List.length_eq_zero_iff.1 hl; rfl
  | succ m ih =>
    intro x l hw hn hl
    have ht : (l.take 64).length = 64 := by simp; omega
    have hlay : lay x.w x.n (l.take 64) = l.take 64 := by
      unfold lay
      rw [hn, ht, List.take_zero, List.nil_append, List.drop_of_length_le (by omega), List.append_nil]
    have e : absorbs x l = absorbs (absorbs x (l.take 64)) (l.drop 64) := by rw [← absorbs_app, List.take_append_drop]
    rw [e, absorbs_full hw (by omega) (by omega), hlay]
    rw [ih _ _ (by exact ht) rfl (by simp; omega)]
    rfl
def be8 (n : Nat) : List UInt8 := (List.range 8).map fun i => UInt8.ofNat (n / 2 ^ (56 - 8 * i))
def gap (n : Nat) : Nat := (119 - n % 64) % 64
/-- What comes to n bytes. -/
def tail8 (n : Nat) : List UInt8 := 128 :: List.replicate (gap n) 0 ++ be8 (n * 8)
theorem tail8_len (n : Nat) : (n + (tail8 n).length) % 64 = 0 := by
  simp [tail8, be8, gap]
  omega
def start : Abs := ⟨sha0, List.replicate 64 0, 0⟩
def w4 (x : BitVec 32) : List UInt8 := [UInt8.ofNat (x.toNat / 16777216), UInt8.ofNat (x.toNat / 65536), UInt8.ofNat (x.toNat / 256), UInt8.ofNat x.toNat]
def S8.out (x : S8) : List UInt8 := w4 x.a ++ w4 x.b ++ w4 x.c ++ w4 x.d ++ w4 x.e ++ w4 x.f ++ w4 x.g ++ w4 x.h
/-- The sum of bytes. -/
def shaL (l : List UInt8) : List UInt8 := (blocksN ((l.length + (tail8 l.length).length) / 64) sha0 (l ++ tail8 l.length)).out
theorem sha_absorb (l : List UInt8) : (absorbs (absorbs start l) (tail8 l.length)).h.out = shaL l := by
  rw [← absorbs_app]
  unfold shaL
  have := tail8_len l.length
  rw [absorbs_blocks ((l.length + (tail8 l.length).length) / 64) start _ (by simp [start]) rfl (by rw [List.length_append]; omega)]
  rfl
theorem shaL_len (l : List UInt8) : (shaL l).length = 32 := rfl
end Go.Proofs.Ytblflecalomgfaa.AL
