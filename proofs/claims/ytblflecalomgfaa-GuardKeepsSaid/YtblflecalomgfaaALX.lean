/- Rules with conditions for going through told code (the conditions are met by omega), and loops told by the slots that they change. -/
import Derived.Test.YtblflecalomgfaaALK
set_option linter.unusedSimpArgs false
set_option linter.unusedVariables false
namespace Go.Proofs.Ytblflecalomgfaa.AL
open Go Go.Proofs
/-! ### sums of whole numbers that are natural ones -/
theorem w_nat {a : Nat} (h : a < 9223372036854775808) : IntKind.wrap .i64 (a : Int) = (a : Int) := wi64 (by omega) (by omega)
theorem w_lit (k : Nat) (h : k < 9223372036854775808) : IntKind.wrap .i64 (no_index (OfNat.ofNat k) : Int) = (no_index (OfNat.ofNat k) : Int) := w_nat (a := k) h
theorem w_add {a b : Nat} (h : a + b < 9223372036854775808) : IntKind.wrap .i64 ((a : Int) + (b : Int)) = ((a + b : Nat) : Int) := by rw [wi64 (by omega) (by omega)]; omega
theorem w_addl {a : Nat} (k : Nat) (h : a + OfNat.ofNat k < 9223372036854775808) : IntKind.wrap .i64 ((a : Int) + (no_index (OfNat.ofNat k) : Int)) = ((a + OfNat.ofNat k : Nat) : Int) := w_add (b := k) h
theorem w_ladd {a : Nat} (k : Nat) (h : OfNat.ofNat k + a < 9223372036854775808) : IntKind.wrap .i64 ((no_index (OfNat.ofNat k) : Int) + (a : Int)) = ((OfNat.ofNat k + a : Nat) : Int) := w_add (a := k) h
theorem w_sub {a b : Nat} (h : b ≤ a) (h2 : a < 9223372036854775808) : IntKind.wrap .i64 ((a : Int) - (b : Int)) = ((a - b : Nat) : Int) := by rw [wi64 (by omega) (by omega)]; omega
theorem w_subl {a : Nat} (k : Nat) (h : OfNat.ofNat k ≤ a) (h2 : a < 9223372036854775808) : IntKind.wrap .i64 ((a : Int) - (no_index (OfNat.ofNat k) : Int)) = ((a - OfNat.ofNat k : Nat) : Int) := w_sub (b := k) h h2
theorem w_lsub {a : Nat} (k : Nat) (h : a ≤ OfNat.ofNat k) (h2 : k < 9223372036854775808) : IntKind.wrap .i64 ((no_index (OfNat.ofNat k) : Int) - (a : Int)) = ((OfNat.ofNat k - a : Nat) : Int) := w_sub (a := k) h h2
theorem w_mul {a b : Nat} (h : a * b < 9223372036854775808) : IntKind.wrap .i64 ((a : Int) * (b : Int)) = ((a * b : Nat) : Int) := by rw [← Int.natCast_mul, w_nat h]
theorem w_mull {a : Nat} (k : Nat) (h : a * OfNat.ofNat k < 9223372036854775808) : IntKind.wrap .i64 ((a : Int) * (no_index (OfNat.ofNat k) : Int)) = ((a * OfNat.ofNat k : Nat) : Int) := w_mul (b := k) h
theorem w_lmul {a : Nat} (k : Nat) (h : OfNat.ofNat k * a < 9223372036854775808) : IntKind.wrap .i64 ((no_index (OfNat.ofNat k) : Int) * (a : Int)) = ((OfNat.ofNat k * a : Nat) : Int) := w_mul (a := k) h
theorem t_div (a b : Nat) : Int.tdiv (a : Int) (b : Int) = ((a / b : Nat) : Int) := rfl
theorem t_divl (a k : Nat) : Int.tdiv (a : Int) (no_index (OfNat.ofNat k) : Int) = ((a / OfNat.ofNat k : Nat) : Int) := t_div a k
theorem t_mod (a b : Nat) : Int.tmod (a : Int) (b : Int) = ((a % b : Nat) : Int) := rfl
theorem t_modl (a k : Nat) : Int.tmod (a : Int) (no_index (OfNat.ofNat k) : Int) = ((a % OfNat.ofNat k : Nat) : Int) := t_mod a k
/-! ### comparing -/
theorem i_lt (a b : Nat) : ((a : Int) < (b : Int)) = (a < b) := by simp
theorem i_ltl (a k : Nat) : ((a : Int) < (no_index (OfNat.ofNat k) : Int)) = (a < OfNat.ofNat k) := i_lt a k
theorem i_llt (a k : Nat) : ((no_index (OfNat.ofNat k) : Int) < (a : Int)) = (OfNat.ofNat k < a) := i_lt k a
theorem i_le (a b : Nat) : ((a : Int) ≤ (b : Int)) = (a ≤ b) := by simp
theorem i_lel (a k : Nat) : ((a : Int) ≤ (no_index (OfNat.ofNat k) : Int)) = (a ≤ OfNat.ofNat k) := i_le a k
theorem i_lle (a k : Nat) : ((no_index (OfNat.ofNat k) : Int) ≤ (a : Int)) = (OfNat.ofNat k ≤ a) := i_le k a
theorem i_eq (a b : Nat) : ((a : Int) = (b : Int)) = (a = b) := by simp; omega
theorem i_eql (a k : Nat) : ((a : Int) = (no_index (OfNat.ofNat k) : Int)) = (a = OfNat.ofNat k) := i_eq a k
theorem i_leq (a k : Nat) : ((no_index (OfNat.ofNat k) : Int) = (a : Int)) = (OfNat.ofNat k = a) := i_eq k a
theorem d_beq (a b : Int) : (a == b) = decide (a = b) := by rw [Bool.eq_iff_iff]; simp
theorem d_bne (a b : Int) : (a != b) = !decide (a = b) := by rw [bne, d_beq]
theorem d_bytes (l m : List UInt8) : (l == m) = decide (l = m) := by rw [Bool.eq_iff_iff]; simp
theorem byte_at {l : List UInt8} {i : Nat} (h : i < l.length) : l[i]? = some (l.getD i 0) := by
  rw [List.getD_eq_getElem?_getD, List.getElem?_eq_getElem h]; rfl
theorem bytesL (l : List UInt8) : l.map (fun b => AV.int .u8 (b.toNat : Int)) = l.map byteV := rfl
theorem toNat_lit (k : Nat) : (no_index (OfNat.ofNat k) : Int).toNat = OfNat.ofNat k := rfl
section
variable {C : (Nat → List AV → AHeap → (AV → AHeap → Prop) → Prop)} {k : List Fr} {a : List AV} {H : AHeap} {Q : AExit → List AV → AHeap → Prop} {l : List AOper} {d : Option Nat}
theorem cnd_dec {p : Prop} [Decidable p] {x y : ACode} (h1 : p → go C x k a H Q) (h2 : ¬ p → go C y k a H Q) : cnd C (.bool (decide p)) x y k a H Q :=
  cnd_split (fun h => h1 (of_decide_eq_true h)) (fun h => h2 (of_decide_eq_false h))
theorem cnd_not {b : Bool} {x y : ACode} (h : cnd C (.bool b) y x k a H Q) : cnd C (.bool !b) x y k a H Q := by
  cases b <;> exact h
theorem grd_dec {op : AOp} {want : Bool} {p : Prop} [Decidable p] (h1 : p → grd C op l k d want (.bool true) a H Q) (h2 : ¬ p → grd C op l k d want (.bool false) a H Q) : grd C op l k d want (.bool (decide p)) a H Q :=
  grd_split (fun h => h1 (of_decide_eq_true h)) (fun h => h2 (of_decide_eq_false h))
theorem grd_not {op : AOp} {want b : Bool} (h : grd C op l k d (!want) (.bool b) a H Q) : grd C op l k d want (.bool !b) a H Q := by
  cases b <;> cases want <;> exact h
/-! ### rows that were there already -/
theorem hp_getn {H' : AHeap} {n i : Nat} {l : List AObj} (h : H'.next = n) : (hp H' l).get (n + i) = l[i]? := by subst h; exact hp_get _ _ _
theorem hp_setn {H' : AHeap} {n i : Nat} {l : List AObj} {o : AObj} (h : H'.next = n) : (hp H' l).set (n + i) o = hp H' (l.set i o) := by subst h; exact hp_set _ _ _ _
section
variable (H : AHeap) (l : List AObj) (o o1 o2 o3 : AObj) (a b c i : Nat)
theorem hp_get1 : (hp (H.set a o1) l).get (H.next + i) = l[i]? := hp_getn (set_next _ _ _)
theorem hp_get2 : (hp ((H.set a o1).set b o2) l).get (H.next + i) = l[i]? := hp_getn rfl
theorem hp_get3 : (hp (((H.set a o1).set b o2).set c o3) l).get (H.next + i) = l[i]? := hp_getn rfl
theorem hp_set1 : (hp (H.set a o1) l).set (H.next + i) o = hp (H.set a o1) (l.set i o) := hp_setn (set_next _ _ _)
theorem hp_set2 : (hp ((H.set a o1).set b o2) l).set (H.next + i) o = hp ((H.set a o1).set b o2) (l.set i o) := hp_setn rfl
theorem hp_set3 : (hp (((H.set a o1).set b o2).set c o3) l).set (H.next + i) o = hp (((H.set a o1).set b o2).set c o3) (l.set i o) := hp_setn rfl
end
theorem hp_old {H' : AHeap} {i : Nat} {l : List AObj} (h : i < H'.next) : (hp H' l).get i = H'.get i := hp_get_old _ _ _ h
theorem hp_sold {H' : AHeap} {i : Nat} {l : List AObj} {o : AObj} (h : i < H'.next) : (hp H' l).set i o = hp (H'.set i o) l := hp_set_old _ _ _ _ h
theorem set_got {H' : AHeap} {i : Nat} {o : AObj} (h : i < H'.next) : (H'.set i o).get i = some o := set_get_same _ _ _ h
theorem set_other {H' : AHeap} {i j : Nat} {o : AObj} (h : j ≠ i) : (H'.set i o).get j = H'.get j := set_get_ne _ _ _ _ h
theorem set_swap {H : AHeap} {i j : Nat} {o o' : AObj} (h : i ≠ j) : (H.set i o).set j o' = (H.set j o').set i o := by
  apply AHeap.ext'
  · rfl
  · intro k
    simp only [AHeap.set]
    by_cases h1 : k = i
    · subst h1
      simp [h]
    · simp [h1]
theorem AHeap.set_self {H : AHeap} {i : Nat} {o : AObj} (h : H.get i = some o) : H.set i o = H := by
  apply AHeap.ext'
  · rfl
  · intro j
    simp only [AHeap.set]
    split
    · rename_i hj
      rw [hj.1, h]
    · rfl
/-! ### slices that are handed in: nil, empty, or with elements -/
def slA (k sz : Nat) : List AV → AV
  | [] => match k with
    | 0 => .nils
    | 1 => .emp
    | _ => .imm sz []
  | x :: xs => .imm sz (x :: xs)
section
variable (k sz : Nat) (xs : List AV) (H : AHeap)
theorem slA_cases (k sz : Nat) (xs : List AV) : (slA k sz xs = .nils ∧ xs = []) ∨ (slA k sz xs = .emp ∧ xs = []) ∨ slA k sz xs = .imm sz xs := by
  cases xs with
  | nil => match k with
    | 0 => exact .inl ⟨rfl, rfl⟩
    | 1 => exact .inr (.inl ⟨rfl, rfl⟩)
    | _ + 2 => exact .inr (.inr rfl)
  | cons x xs => exact .inr (.inr rfl)
theorem slA_len : alenL (slA k sz xs) = some (.int .i64 (xs.length : Int)) := by
  rcases slA_cases k sz xs with ⟨h, rfl⟩ | ⟨h, rfl⟩ | h <;> rw [h] <;> rfl
theorem slA_idx (kk : IntKind) (i : Int) : aidxSl sz (slA k sz xs) (.int kk i) = if 0 ≤ i then (xs[i.toNat]?).map (fun x => .rd x.cells) else none := by
  rcases slA_cases k sz xs with ⟨h, rfl⟩ | ⟨h, rfl⟩ | h <;> rw [h] <;> simp [aidxSl]
theorem slA_cells : acells H sz (slA k sz xs) = some (xs.length, xs.flatMap AV.cells) := by
  rcases slA_cases k sz xs with ⟨h, rfl⟩ | ⟨h, rfl⟩ | h <;> rw [h] <;> simp [acells]
theorem flat_slA : (slA k sz xs).flat = true := by
  rcases slA_cases k sz xs with ⟨h, rfl⟩ | ⟨h, rfl⟩ | h <;> rw [h] <;> rfl
theorem one_slA : (slA k sz xs).one = true := by
  rcases slA_cases k sz xs with ⟨h, rfl⟩ | ⟨h, rfl⟩ | h <;> rw [h] <;> rfl
theorem cells_slA : (slA k sz xs).cells = [slA k sz xs] := by
  rcases slA_cases k sz xs with ⟨h, rfl⟩ | ⟨h, rfl⟩ | h <;> rw [h] <;> rfl
theorem map_mid {α : Type} (f : α → AV) (p : List α) (t : α) (q : List α) : (List.map f (p ++ t :: q))[p.length]? = some (f t) := by
  rw [List.getElem?_map, List.getElem?_append_right (Nat.le_refl _), Nat.sub_self]
  rfl
/-- Texts. -/
def strV (l : List UInt8) : AV := .str (B l)
theorem strV_is (l : List UInt8) : strV l = .str (B l) := rfl
end
theorem strs_at {ls : List (List UInt8)} {i : Nat} (h : i < ls.length) : (ls.map strV)[i]? = some (strV (ls.getD i [])) := by
  rw [List.getElem?_map, List.getElem?_eq_getElem h, List.getD_eq_getElem?_getD, List.getElem?_eq_getElem h]
  rfl
theorem all_step {α : Type} {p : α → Bool} {l : List α} {i : Nat} {d : α} (h : i < l.length) : (l.take (i + 1)).all p = ((l.take i).all p && p (l.getD i d)) := by
  rw [List.take_add_one, List.getElem?_eq_getElem h, List.all_append, List.getD_eq_getElem?_getD, List.getElem?_eq_getElem h]
  simp
theorem all_stop {α : Type} {p : α → Bool} {l : List α} {i n : Nat} {d : α} (h : i < l.length) (hi : i < n) (hp : p (l.getD i d) = false) : (l.take n).all p = false := by
  rw [List.all_eq_false]
  refine ⟨l.getD i d, ?_, by rw [hp]; simp⟩
  rw [List.getD_eq_getElem?_getD, List.getElem?_eq_getElem h, Option.getD_some]
  exact List.mem_take_iff_getElem.2 ⟨i, by omega, rfl⟩
/-! ### what leads to rows below n -/
def AllU (n : Nat) (l : List AV) : Prop := ∀ c ∈ l, c.under n
def AllC (n : Nat) (l : List AV) : Prop := ∀ x ∈ l, ∀ c ∈ x.cells, c.under n
section
variable (n : Nat)
theorem u_top : AV.under n .top = True := eq_true .top
theorem u_bool (b : Bool) : AV.under n (.bool b) = True := eq_true (.bool b)
theorem u_int (k : IntKind) (i : Int) : AV.under n (.int k i) = True := eq_true (.int k i)
theorem u_str (s : ByteArray) : AV.under n (.str s) = True := eq_true (.str s)
theorem u_nilp : AV.under n .nilp = True := eq_true .nilp
theorem u_nils : AV.under n .nils = True := eq_true .nils
theorem u_nilf : AV.under n .nilf = True := eq_true .nilf
theorem u_nilm : AV.under n .nilm = True := eq_true .nilm
theorem u_nili : AV.under n .nili = True := eq_true .nili
theorem u_emp : AV.under n .emp = True := eq_true .emp
theorem u_byteV (b : UInt8) : AV.under n (byteV b) = True := eq_true (.int _ _)
theorem u_ptr (id gen off : Nat) : AV.under n (.ptr id gen off) = (id < n) := propext ⟨fun h => by cases h; assumption, fun h => .ptr _ _ _ h⟩
theorem u_wr (id gen off len sz : Nat) : AV.under n (.wr id gen off len sz) = (id < n) := propext ⟨fun h => by cases h; assumption, fun h => .wr _ _ _ _ _ h⟩
theorem u_agg (cs : List AV) : AV.under n (.agg cs) = AllU n cs := propext ⟨fun h => by cases h; assumption, fun h => .agg _ h⟩
theorem u_tup (cs : List AV) : AV.under n (.tup cs) = AllU n cs := propext ⟨fun h => by cases h; assumption, fun h => .tup _ h⟩
theorem u_rd (cs : List AV) : AV.under n (.rd cs) = AllU n cs := propext ⟨fun h => by cases h; assumption, fun h => .rd _ h⟩
theorem u_imm (sz : Nat) (xs : List AV) : AV.under n (.imm sz xs) = AllC n xs := propext ⟨fun h => by cases h; assumption, fun h => .imm _ _ h⟩
theorem u_func (fn : Fn) (fs cs : List AV) : AV.under n (.func fn fs cs) = (AllU n fs ∧ AllU n cs) := propext ⟨fun h => by cases h; exact ⟨by assumption, by assumption⟩, fun h => .func _ _ _ h.1 h.2⟩
theorem u_nil : AllU n [] = True := eq_true (fun c hc => by simp at hc)
theorem u_cons (c : AV) (l : List AV) : AllU n (c :: l) = (c.under n ∧ AllU n l) := by simp [AllU]
theorem u_app (l m : List AV) : AllU n (l ++ m) = (AllU n l ∧ AllU n m) := by
  apply propext
  constructor
  · exact fun h => ⟨fun c hc => h c (by simp [hc]), fun c hc => h c (by simp [hc])⟩
  · rintro ⟨h1, h2⟩ c hc
    rcases List.mem_append.1 hc with h | h
    · exact h1 c h
    · exact h2 c h
theorem uc_nil : AllC n [] = True := eq_true (fun c hc => by simp at hc)
theorem uc_cons (c : AV) (l : List AV) : AllC n (c :: l) = (AllU n c.cells ∧ AllC n l) := by simp [AllC, AllU]
theorem uc_app (l m : List AV) : AllC n (l ++ m) = (AllC n l ∧ AllC n m) := by
  apply propext
  constructor
  · exact fun h => ⟨fun c hc => h c (by simp [hc]), fun c hc => h c (by simp [hc])⟩
  · rintro ⟨h1, h2⟩ c hc
    rcases List.mem_append.1 hc with h | h
    · exact h1 c h
    · exact h2 c h
theorem u_map {α : Type} {f : α → AV} (l : List α) (h : ∀ a, (f a).under n) : AllU n (l.map f) := fun c hc => by
  obtain ⟨a, _, rfl⟩ := List.mem_map.1 hc
  exact h a
theorem uc_map {α : Type} {f : α → AV} (l : List α) (h : ∀ a, AllU n (f a).cells) : AllC n (l.map f) := fun x hx => by
  obtain ⟨a, _, rfl⟩ := List.mem_map.1 hx
  exact h a
theorem u_slA (k sz : Nat) (xs : List AV) : AV.under n (slA k sz xs) = AllC n xs := by
  rcases slA_cases k sz xs with ⟨h, rfl⟩ | ⟨h, rfl⟩ | h <;> rw [h]
  · rw [u_nils, uc_nil]
  · rw [u_emp, uc_nil]
  · rw [u_imm]
theorem uc_strs (l : List (List UInt8)) : AllC n (l.map strV) = True := eq_true (uc_map n l (fun _ => by rw [strV_is, cells_str, u_cons, u_str, u_nil]; exact ⟨trivial, trivial⟩))
theorem u_bytes (l : List UInt8) : AllU n (l.map byteV) = True := eq_true (u_map n l (fun _ => .int _ _))
theorem uc_bytes (l : List UInt8) : AllC n (l.map byteV) = True := eq_true (uc_map n l (fun _ => by rw [cells_byteV, u_cons, u_byteV, u_nil]; exact ⟨trivial, trivial⟩))
theorem u_ints (k : IntKind) (l : List Int) : AllU n (l.map (AV.int k)) = True := eq_true (u_map n l (fun _ => .int _ _))
theorem uc_ints (k : IntKind) (l : List Int) : AllC n (l.map (AV.int k)) = True := eq_true (uc_map n l (fun _ => by rw [cells_int, u_cons, u_int, u_nil]; exact ⟨trivial, trivial⟩))
end
theorem within_set {H1 : AHeap} {n i : Nat} {e : TypeId} {g : Nat} {cs : List AV} (hs : H1.within n) (ho : AllU n cs) : (H1.set i (.row e g cs)).within n := by
  intro id o h1 h2
  simp only [AHeap.set] at h2
  split at h2
  · obtain rfl := Option.some.inj h2
    exact ho
  · exact hs id o h1 h2
theorem within_setO {H1 : AHeap} {n i : Nat} {o : AObj} (hs : H1.within n) (ho : o.under n) : (H1.set i o).within n := by
  intro id o' h1 h2
  simp only [AHeap.set] at h2
  split at h2
  · obtain rfl := Option.some.inj h2
    exact ho
  · exact hs id o' h1 h2
theorem within_hp {H1 : AHeap} {l : List AObj} (hl : ∀ o ∈ l, o.under (H1.next + l.length)) (hm : ∀ id o, id < H1.next → H1.get id = some o → o.under (H1.next + l.length)) : (hp H1 l).within (hp H1 l).next := by
  intro id o h1 h2
  rw [hp_next] at h1 ⊢
  simp only [hp] at h2
  split at h2
  · rename_i h3; exact hm id o h3 h2
  · exact hl o (List.mem_of_getElem? h2)
theorem within_cells {H1 : AHeap} {i : Nat} {e : TypeId} {g : Nat} {cs : List AV} (hs : H1.within H1.next) (hg : H1.get i = some (.row e g cs)) : AllU H1.next cs := hs i _ (H1.lt hg) hg
/-- Rows that were there already have changed. -/
theorem aret_old {H1 H : AHeap} {K : AV → AHeap → Prop} {y : AV} {l : List AObj} (hn : H1.next = H.next) (hw : H1.within H.next) (hy : y.under H.next) (hk : K y H1) : ARet H.next K y (hp H1 l) := by
  have := aret_plain (H := H1) (l := l) (K := K) (y := y) (by rw [hn]; exact hw) (by rw [hn]; exact hy) hk
  rw [hn] at this
  exact this
/-- One's own row within what is answered. -/
theorem aret_tupw {H : AHeap} {K : AV → AHeap → Prop} {l : List AObj} (pre post : List AV) {i gen len sz : Nat} {e : TypeId} {cs : List AV} (xs : List AV) (hrow : l[i]? = some (.row e gen cs)) (hx : ∀ x ∈ xs, x.cells.length = sz) (hn : xs.length = len) (hc : cs = xs.flatMap AV.cells)
    (hs : H.within H.next) (hu : (AV.tup (pre ++ .imm sz xs :: post)).under H.next) (hk : K (.tup (pre ++ .imm sz xs :: post)) H) : ARet H.next K (.tup (pre ++ .wr (H.next + i) gen 0 len sz :: post)) (hp H l) :=
  aret_own (.tup _ _ _ _ _ _ (shut_wr hrow hx hn hc)) (own_kill i own_hp) hs hu hk
theorem aret_wr {H : AHeap} {K : AV → AHeap → Prop} {l : List AObj} {i gen len sz : Nat} {e : TypeId} {cs : List AV} (xs : List AV) (hrow : l[i]? = some (.row e gen cs)) (hx : ∀ x ∈ xs, x.cells.length = sz) (hn : xs.length = len) (hc : cs = xs.flatMap AV.cells)
    (hs : H.within H.next) (hu : (AV.imm sz xs).under H.next) (hk : K (.imm sz xs) H) : ARet H.next K (.wr (H.next + i) gen 0 len sz) (hp H l) :=
  aret_own (shut_wr hrow hx hn hc) (own_kill i own_hp) hs hu hk
/-! ### loops by the slots that they change -/
/-- Slots that code writes to are forgotten. -/
def blurR : List AOper → List AV → List AV
  | [], a => a
  | o :: l, a => match o.dst with
    | some d => blurR l (a.set d .top)
    | none => blurR l a
def blurC : ACode → List AV → List AV
  | .region ops, a => blurR ops a
  | .regionN _ ops, a => blurR ops a
  | .seq x y, a => blurC y (blurC x a)
  | .cond _ x y, a => blurC y (blurC x a)
  | .block _ c, a => blurC c a
  | .loop c, a => blurC c a
  | .skip, a => a
  | .exit _, a => a
  | .ret, a => a
def tellS : List (Nat × AV) → List AV → List AV
  | [], a => a
  | (t, y) :: us, a => tellS us (a.set t y)
theorem blurR_nil (a : List AV) : blurR [] a = a := rfl
theorem blurR_some (d : Nat) (op : AOp) (g : Option (Nat × Bool)) (l : List AOper) (a : List AV) : blurR (⟨some d, op, g⟩ :: l) a = blurR l (a.set d .top) := rfl
theorem blurR_none (op : AOp) (g : Option (Nat × Bool)) (l : List AOper) (a : List AV) : blurR (⟨none, op, g⟩ :: l) a = blurR l a := rfl
theorem blurC_region (ops : List AOper) (a : List AV) : blurC (.region ops) a = blurR ops a := rfl
theorem blurC_regionN (n : Nat) (ops : List AOper) (a : List AV) : blurC (.regionN n ops) a = blurR ops a := rfl
theorem blurC_seq (x y : ACode) (a : List AV) : blurC (.seq x y) a = blurC y (blurC x a) := rfl
theorem blurC_cond (c : AX) (x y : ACode) (a : List AV) : blurC (.cond c x y) a = blurC y (blurC x a) := rfl
theorem blurC_block (i : Nat) (c : ACode) (a : List AV) : blurC (.block i c) a = blurC c a := rfl
theorem blurC_loop (c : ACode) (a : List AV) : blurC (.loop c) a = blurC c a := rfl
theorem blurC_skip (a : List AV) : blurC .skip a = a := rfl
theorem blurC_exit (i : Nat) (a : List AV) : blurC (.exit i) a = a := rfl
theorem blurC_ret (a : List AV) : blurC .ret a = a := rfl
theorem tellS_nil (a : List AV) : tellS [] a = a := rfl
theorem tellS_cons (t : Nat) (y : AV) (us : List (Nat × AV)) (a : List AV) : tellS ((t, y) :: us) a = tellS us (a.set t y) := rfl
/-- A loop: us tells the slots that differ from round to round; what else its code writes to is forgotten. -/
theorem go_loopS (hC : Mono C) {σ : Type} (us : σ → List (Nat × AV)) (hh : σ → AHeap) (ok : σ → Prop) (μ : σ → Nat) (s0 : σ) {c : ACode} (h0 : Forget a (tellS (us s0) (blurC c a))) (hH : H = hh s0) (hok : ok s0)
    (round : ∀ s, ok s → ∀ J : List AV → AHeap → Prop, (∀ s' a', ok s' → μ s' < μ s → Forget a' (tellS (us s') (blurC c a)) → J a' (hh s')) → go C c (.cut J :: k) (tellS (us s) (blurC c a)) (hh s) Q) : go C (.loop c) k a H Q :=
  go_loop hC (fun s => tellS (us s) (blurC c a)) hh ok μ s0 h0 hH hok round
end
end Go.Proofs.Ytblflecalomgfaa.AL
