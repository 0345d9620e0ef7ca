/- Texts gathered into one. -/
import Derived.Test.YtmdgjfadbhenjaaGreatDoorQCellsUpALA3
import Derived.Test.YtmdgjfadbhenjaaGreatDoorProg
import Derived.WalkKit
import Derived.Lib.Bytealg
import Derived.Lib.MakeNoZero
import Derived.ChangeArms
import Derived.ProofKit
/- Small facts for going through told code over the seat's program. -/
set_option linter.unusedSimpArgs false
namespace Go.Proofs.YtmdgjfadbhenjaaGreatDoor.AL
open Go Go.Proofs
theorem mo : Tryz.prog.follows .mixedOrders = true := by kernel_rfl
theorem mono : Mono (ACalls Tryz.prog) := calls_mono
theorem wi64 {n : Int} (h1 : -9223372036854775808 ≤ n) (h2 : n < 9223372036854775808) : IntKind.wrap .i64 n = n := by rw [IntKind.wrap_i64]; omega
theorem wnext {i n : Nat} (h : i < n) (hn : n ≤ 9223372036854775807) : IntKind.wrap .i64 ((i : Int) + 1) = ((i + 1 : Nat) : Int) := by rw [wi64 (by omega) (by omega)]; omega
theorem shr_i64 (a b : Int) (h : 0 ≤ b) (h2 : b ≤ 64) : ashift false .i64 a b = some (.int .i64 (a / (2 ^ b.toNat))) := by
  unfold ashift
  rw [if_neg (by omega), show min b.toNat (IntKind.bits .i64) = b.toNat by simp only [IntKind.bits]; omega, Int.fdiv_eq_ediv_of_nonneg _ (by exact Int.le_of_lt (Int.pow_pos (by decide)))]
  rfl
theorem shl_i64 (a b : Int) (h : 0 ≤ b) (h2 : b ≤ 64) : ashift true .i64 a b = some (.int .i64 (IntKind.wrap .i64 (a * 2 ^ b.toNat))) := by
  unfold ashift
  rw [if_neg (by omega), show min b.toNat (IntKind.bits .i64) = b.toNat by simp only [IntKind.bits]; omega]
  rfl
theorem alenL_nils : alenL .nils = some (.int .i64 0) := rfl
theorem alenL_emp : alenL .emp = some (.int .i64 0) := rfl
theorem alenL_imm (sz : Nat) (xs : List AV) : alenL (.imm sz xs) = some (.int .i64 xs.length) := rfl
theorem alenL_wr (id gen o n sz : Nat) : alenL (.wr id gen o n sz) = some (.int .i64 n) := rfl
theorem aidxSl_wr (sz id gen o n s : Nat) (k : IntKind) (i : Int) : aidxSl sz (.wr id gen o n s) (.int k i) = if s = sz ∧ 0 ≤ i ∧ i < n then some (.ptr id gen (o + i.toNat * sz)) else none := rfl
theorem alenL_wc (id gen o n c sz : Nat) : alenL (.wc id gen o n c sz) = some (.int .i64 n) := rfl
theorem aidxSl_wc (sz id gen o n c s : Nat) (k : IntKind) (i : Int) : aidxSl sz (.wc id gen o n c s) (.int k i) = if s = sz ∧ 0 ≤ i ∧ i < n then some (.ptr id gen (o + i.toNat * sz)) else none := rfl
theorem aidxSl_imm (sz s : Nat) (xs : List AV) (k : IntKind) (i : Int) : aidxSl sz (.imm s xs) (.int k i) = if s = sz ∧ 0 ≤ i then (xs[i.toNat]?).map (fun x => .rd x.cells) else none := rfl
theorem acells_nils (H : AHeap) (sz : Nat) : acells H sz .nils = some (0, []) := rfl
theorem acells_emp (H : AHeap) (sz : Nat) : acells H sz .emp = some (0, []) := rfl
theorem acells_imm (H : AHeap) (sz s : Nat) (xs : List AV) : acells H sz (.imm s xs) = if s = sz then some (xs.length, xs.flatMap AV.cells) else none := rfl
theorem acells_wr (H : AHeap) (sz id gen off n s : Nat) : acells H sz (.wr id gen off n s) = if s = sz then (match H.get id with
    | some (.row _ g cs) => if g = gen ∧ off + n * s ≤ cs.length then some (n, (cs.drop off).take (n * s)) else none
    | _ => none) else none := rfl
theorem acells_wc (H : AHeap) (sz id gen off n c s : Nat) : acells H sz (.wc id gen off n c s) = if s = sz then (match H.get id with
    | some (.row _ g cs) => if g = gen ∧ off + n * s ≤ cs.length then some (n, (cs.drop off).take (n * s)) else none
    | _ => none) else none := rfl
theorem acells_str (H : AHeap) (sz : Nat) (s : ByteArray) : acells H sz (.str s) = if sz = 1 then some (s.size, s.data.toList.map fun b => .int .u8 (b.toNat : Int)) else none := rfl
theorem aapp_nils (e : TypeId) (sz bytes : Nat) (H : AHeap) (x : AV) : aapp e sz bytes H .nils x = (match acells H sz x with
    | some (n, ys) => if ys.all AV.one = true then (if n = 0 then some (.nils, H) else if n * bytes ≤ 140737488355328 then some (.wr H.next 0 0 n sz, H.push (.row e 0 ys)) else none) else none
    | none => none) := rfl
theorem aapp_wr (e : TypeId) (sz bytes : Nat) (H : AHeap) (id gen len s : Nat) (x : AV) : aapp e sz bytes H (.wr id gen 0 len s) x = (match acells H sz x with
    | some (n, ys) => if ys.all AV.one = true then (match H.get id with
      | some (.row e' g cs) => if s = sz ∧ e' = e ∧ g = gen ∧ cs.length = len * sz ∧ (len + n) * bytes ≤ 140737488355328 then some (.wr id (gen + 1) 0 (len + n) sz, H.set id (.row e (gen + 1) (cs ++ ys))) else none
      | _ => none) else none
    | none => none) := rfl
theorem flat_bool (b : Bool) : AV.flat (AV.bool b) = true := rfl
theorem one_bool (b : Bool) : AV.one (AV.bool b) = true := rfl
theorem cells_bool (b : Bool) : AV.cells (AV.bool b) = [AV.bool b] := rfl
theorem flat_int (k : IntKind) (n : Int) : AV.flat (AV.int k n) = true := rfl
theorem one_int (k : IntKind) (n : Int) : AV.one (AV.int k n) = true := rfl
theorem cells_int (k : IntKind) (n : Int) : AV.cells (AV.int k n) = [AV.int k n] := rfl
theorem flat_str (s : ByteArray) : AV.flat (AV.str s) = true := rfl
theorem one_str (s : ByteArray) : AV.one (AV.str s) = true := rfl
theorem cells_str (s : ByteArray) : AV.cells (AV.str s) = [AV.str s] := rfl
theorem flat_nilp  : AV.flat (AV.nilp) = true := rfl
theorem one_nilp  : AV.one (AV.nilp) = true := rfl
theorem cells_nilp  : AV.cells (AV.nilp) = [AV.nilp] := rfl
theorem flat_ptr (i g o : Nat) : AV.flat (AV.ptr i g o) = true := rfl
theorem one_ptr (i g o : Nat) : AV.one (AV.ptr i g o) = true := rfl
theorem cells_ptr (i g o : Nat) : AV.cells (AV.ptr i g o) = [AV.ptr i g o] := rfl
theorem flat_nils  : AV.flat (AV.nils) = true := rfl
theorem one_nils  : AV.one (AV.nils) = true := rfl
theorem cells_nils  : AV.cells (AV.nils) = [AV.nils] := rfl
theorem flat_imm (z : Nat) (xs : List AV) : AV.flat (AV.imm z xs) = true := rfl
theorem one_imm (z : Nat) (xs : List AV) : AV.one (AV.imm z xs) = true := rfl
theorem cells_imm (z : Nat) (xs : List AV) : AV.cells (AV.imm z xs) = [AV.imm z xs] := rfl
theorem flat_wc (i g o n c z : Nat) : AV.flat (AV.wc i g o n c z) = true := rfl
theorem one_wc (i g o n c z : Nat) : AV.one (AV.wc i g o n c z) = true := rfl
theorem cells_wc (i g o n c z : Nat) : AV.cells (AV.wc i g o n c z) = [AV.wc i g o n c z] := rfl
theorem flat_wr (i g o n z : Nat) : AV.flat (AV.wr i g o n z) = true := rfl
theorem one_wr (i g o n z : Nat) : AV.one (AV.wr i g o n z) = true := rfl
theorem cells_wr (i g o n z : Nat) : AV.cells (AV.wr i g o n z) = [AV.wr i g o n z] := rfl
theorem flat_func (f : Fn) (a b : List AV) : AV.flat (AV.func f a b) = true := rfl
theorem one_func (f : Fn) (a b : List AV) : AV.one (AV.func f a b) = true := rfl
theorem cells_func (f : Fn) (a b : List AV) : AV.cells (AV.func f a b) = [AV.func f a b] := rfl
theorem flat_nilf  : AV.flat (AV.nilf) = true := rfl
theorem one_nilf  : AV.one (AV.nilf) = true := rfl
theorem cells_nilf  : AV.cells (AV.nilf) = [AV.nilf] := rfl
theorem flat_map (i : Nat) : AV.flat (AV.map i) = true := rfl
theorem one_map (i : Nat) : AV.one (AV.map i) = true := rfl
theorem cells_map (i : Nat) : AV.cells (AV.map i) = [AV.map i] := rfl
theorem flat_nilm  : AV.flat (AV.nilm) = true := rfl
theorem one_nilm  : AV.one (AV.nilm) = true := rfl
theorem cells_nilm  : AV.cells (AV.nilm) = [AV.nilm] := rfl
theorem flat_iface (t : TypeId) (v : AV) : AV.flat (AV.iface t v) = true := rfl
theorem one_iface (t : TypeId) (v : AV) : AV.one (AV.iface t v) = true := rfl
theorem cells_iface (t : TypeId) (v : AV) : AV.cells (AV.iface t v) = [AV.iface t v] := rfl
theorem flat_nili  : AV.flat (AV.nili) = true := rfl
theorem one_nili  : AV.one (AV.nili) = true := rfl
theorem cells_nili  : AV.cells (AV.nili) = [AV.nili] := rfl
theorem flat_rd (ys : List AV) : AV.flat (AV.rd ys) = true := rfl
theorem one_rd (ys : List AV) : AV.one (AV.rd ys) = true := rfl
theorem cells_rd (ys : List AV) : AV.cells (AV.rd ys) = [AV.rd ys] := rfl
theorem flat_emp  : AV.flat (AV.emp) = true := rfl
theorem one_emp  : AV.one (AV.emp) = true := rfl
theorem cells_emp  : AV.cells (AV.emp) = [AV.emp] := rfl
theorem flat_byteV (b : UInt8) : AV.flat (byteV b) = true := rfl
theorem one_byteV (b : UInt8) : AV.one (byteV b) = true := rfl
theorem cells_byteV (b : UInt8) : AV.cells (byteV b) = [byteV b] := rfl
theorem flat_agg (cs : List AV) : AV.flat (AV.agg cs) = true := rfl
theorem cells_agg (cs : List AV) : AV.cells (AV.agg cs) = cs := rfl
theorem one_agg (cs : List AV) : AV.one (AV.agg cs) = false := rfl
/-! ### texts by their bytes -/
theorem B_size (l : List UInt8) : (B l).size = l.length := by simp [B, ByteArray.size]
theorem B_list (l : List UInt8) : (B l).data.toList = l := rfl
theorem B_app (l m : List UInt8) : B l ++ B m = B (l ++ m) := by
  apply ByteArray.ext
  simp [B, ByteArray.data_append]
theorem B_of (s : ByteArray) : B s.data.toList = s := by
  apply ByteArray.ext
  simp [B]
theorem B_ext (l : List UInt8) (a b : Nat) : (B l).extract a b = B ((l.take b).drop a) := by
  apply ByteArray.ext
  simp only [ByteArray.data_extract]
  apply Array.ext'
  simp [B, List.extract_eq_take_drop]
  rw [List.drop_take]
theorem B_toList (l : List UInt8) : (B l).toList = l := by
  rw [ByteArray.toList_eq]
  rfl
theorem bytesV_get (l : List UInt8) (i : Nat) (h : i < l.length) : (l.map byteV)[i]? = some (.int .u8 (l[i].toNat : Int)) := by
  rw [List.getElem?_map, List.getElem?_eq_getElem h]
  rfl
/-- The lowest eight bits. -/
def b8 (n : Int) : UInt8 := UInt8.ofNat (n % 256).toNat
theorem b8_num (n : Int) : ((b8 n).toNat : Int) = n % 256 := by
  unfold b8
  rw [UInt8.toNat_ofNat']
  omega
theorem byte_wrap (n : Int) : AV.int .u8 (IntKind.wrap .u8 n) = byteV (b8 n) := by
  rw [byteV, b8_num, IntKind.wrap_u8]
theorem bytes_flat (l : List UInt8) : (l.map byteV).flatMap AV.cells = l.map byteV := map_one byteV cells_byteV l
theorem bytes_all (l : List UInt8) : (l.map byteV).all AV.one = true := by simp [one_byteV]
theorem abyte_byteV (b : UInt8) : abyte (byteV b) = some b := by
  simp [abyte, byteV]
theorem bytes_mapM : ∀ (l : List UInt8), (l.map byteV).mapM abyte = some l
  | [] => rfl
  | b :: l => by
    rw [List.map_cons, List.mapM_cons, abyte_byteV, bytes_mapM l]
    rfl
theorem b2s_imm (H : AHeap) (l : List UInt8) : ab2s H (.imm 1 (l.map byteV)) = some (.str (B l)) := by
  simp only [ab2s, aelems, Option.bind_some, bytes_mapM, Option.map_some]
  rfl
theorem b2s_wr (H : AHeap) (l : List AObj) (e : TypeId) (i gen : Nat) (bs : List UInt8) (h : l[i]? = some (.row e gen (bs.map byteV))) : ab2s (hp H l) (.wr (H.next + i) gen 0 bs.length 1) = some (.str (B bs)) := by
  have : aelems (hp H l) (.wr (H.next + i) gen 0 bs.length 1) = some (bs.map byteV) := by
    simp only [aelems, hp_get, h]
    rw [if_pos ⟨trivial, by simp⟩, List.drop_zero, List.take_of_length_le (by simp)]
  simp only [ab2s, this, Option.bind_some, bytes_mapM, Option.map_some]
  rfl
theorem b2s_slv {H : AHeap} {e : TypeId} {m k : Nat} {bs : List UInt8} (h : bs.length = k * m) : ab2s (hp H (slh e k (bs.map byteV))) (slv (H.next + 0) m 1 k) = some (.str (B bs)) := by
  cases k with
  | zero =>
    have hz : bs = [] := List.length_eq_zero_iff.1 (by rw [h]; simp)
    subst hz
    rfl
  | succ k =>
    simp only [slv, slh, ← h]
    exact b2s_wr H _ e 0 k bs rfl
theorem ints_flat (k : IntKind) (l : List Int) : (l.map (AV.int k)).flatMap AV.cells = l.map (AV.int k) := map_one _ (cells_int k) l
/-! ### numbers of four bytes -/
def big (l : List UInt8) : Nat := l.foldl (fun n b => n * 256 + b.toNat) 0
theorem big_snoc (l : List UInt8) (b : UInt8) : big (l ++ [b]) = big l * 256 + b.toNat := by simp [big, List.foldl_append]
theorem big_lt : ∀ (n : Nat) (l : List UInt8), l.length = n → big l < 256 ^ n := by
  intro n
  induction n with
  | zero => intro l h; obtain rfl := List.length_eq_zero_iff.1 h; decide
  | succ n ih =>
    intro l h
    have hne : l ≠ [] := by intro e; subst e; simp at h
    rw [← List.dropLast_concat_getLast hne, big_snoc]
    have h1 := ih l.dropLast (by simp [h])
    have h2 := (l.getLast hne).toNat_lt
    rw [Nat.pow_succ]
    omega
theorem or_byte (n : Nat) (b : UInt8) (hn : n < 36028797018963968) : bits .or .i64 ((n : Int) * 256) (b.toNat : Int) = ((n * 256 + b.toNat : Nat) : Int) := by
  have h2 := b.toNat_lt
  rw [bits_join .i64 63 (by decide) (fun n h0 h1 => by rw [IntKind.wrap_i64]; omega) 8 ((n : Int) * 256) (b.toNat : Int) (by omega) (by omega) (by omega) (by omega) (by omega) (by omega)]
  omega
end Go.Proofs.YtmdgjfadbhenjaaGreatDoor.AL
/- Rules with conditions for going through told code (the conditions are met by omega), and loops told by the slots that they change. -/
set_option linter.unusedSimpArgs false
set_option linter.unusedVariables false
namespace Go.Proofs.YtmdgjfadbhenjaaGreatDoor.AL
open Go Go.Proofs
/-! ### sums of whole numbers that are natural ones -/
theorem w_nat {a : Nat} (h : a < 9223372036854775808) : IntKind.wrap .i64 (a : Int) = (a : Int) := wi64 (by omega) (by omega)
theorem w_lit (k : Nat) (h : k < 9223372036854775808) : IntKind.wrap .i64 (no_index (OfNat.ofNat k) : Int) = (no_index (OfNat.ofNat k) : Int) := w_nat (a := k) h
theorem w_add {a b : Nat} (h : a + b < 9223372036854775808) : IntKind.wrap .i64 ((a : Int) + (b : Int)) = ((a + b : Nat) : Int) := by rw [wi64 (by omega) (by omega)]; omega
theorem w_addl {a : Nat} (k : Nat) (h : a + OfNat.ofNat k < 9223372036854775808) : IntKind.wrap .i64 ((a : Int) + (no_index (OfNat.ofNat k) : Int)) = ((a + OfNat.ofNat k : Nat) : Int) := w_add (b := k) h
theorem w_ladd {a : Nat} (k : Nat) (h : OfNat.ofNat k + a < 9223372036854775808) : IntKind.wrap .i64 ((no_index (OfNat.ofNat k) : Int) + (a : Int)) = ((OfNat.ofNat k + a : Nat) : Int) := w_add (a := k) h
theorem w_sub {a b : Nat} (h : b ≤ a) (h2 : a < 9223372036854775808) : IntKind.wrap .i64 ((a : Int) - (b : Int)) = ((a - b : Nat) : Int) := by rw [wi64 (by omega) (by omega)]; omega
theorem w_subl {a : Nat} (k : Nat) (h : OfNat.ofNat k ≤ a) (h2 : a < 9223372036854775808) : IntKind.wrap .i64 ((a : Int) - (no_index (OfNat.ofNat k) : Int)) = ((a - OfNat.ofNat k : Nat) : Int) := w_sub (b := k) h h2
theorem w_lsub {a : Nat} (k : Nat) (h : a ≤ OfNat.ofNat k) (h2 : k < 9223372036854775808) : IntKind.wrap .i64 ((no_index (OfNat.ofNat k) : Int) - (a : Int)) = ((OfNat.ofNat k - a : Nat) : Int) := w_sub (a := k) h h2
theorem w_mul {a b : Nat} (h : a * b < 9223372036854775808) : IntKind.wrap .i64 ((a : Int) * (b : Int)) = ((a * b : Nat) : Int) := by rw [← Int.natCast_mul, w_nat h]
theorem w_mull {a : Nat} (k : Nat) (h : a * OfNat.ofNat k < 9223372036854775808) : IntKind.wrap .i64 ((a : Int) * (no_index (OfNat.ofNat k) : Int)) = ((a * OfNat.ofNat k : Nat) : Int) := w_mul (b := k) h
theorem w_lmul {a : Nat} (k : Nat) (h : OfNat.ofNat k * a < 9223372036854775808) : IntKind.wrap .i64 ((no_index (OfNat.ofNat k) : Int) * (a : Int)) = ((OfNat.ofNat k * a : Nat) : Int) := w_mul (a := k) h
theorem t_div (a b : Nat) : Int.tdiv (a : Int) (b : Int) = ((a / b : Nat) : Int) := rfl
theorem t_divl (a k : Nat) : Int.tdiv (a : Int) (no_index (OfNat.ofNat k) : Int) = ((a / OfNat.ofNat k : Nat) : Int) := t_div a k
theorem t_mod (a b : Nat) : Int.tmod (a : Int) (b : Int) = ((a % b : Nat) : Int) := rfl
theorem t_modl (a k : Nat) : Int.tmod (a : Int) (no_index (OfNat.ofNat k) : Int) = ((a % OfNat.ofNat k : Nat) : Int) := t_mod a k
/-! ### comparing -/
theorem i_lt (a b : Nat) : ((a : Int) < (b : Int)) = (a < b) := by simp
theorem i_ltl (a k : Nat) : ((a : Int) < (no_index (OfNat.ofNat k) : Int)) = (a < OfNat.ofNat k) := i_lt a k
theorem i_llt (a k : Nat) : ((no_index (OfNat.ofNat k) : Int) < (a : Int)) = (OfNat.ofNat k < a) := i_lt k a
theorem i_le (a b : Nat) : ((a : Int) ≤ (b : Int)) = (a ≤ b) := by simp
theorem i_lel (a k : Nat) : ((a : Int) ≤ (no_index (OfNat.ofNat k) : Int)) = (a ≤ OfNat.ofNat k) := i_le a k
theorem i_lle (a k : Nat) : ((no_index (OfNat.ofNat k) : Int) ≤ (a : Int)) = (OfNat.ofNat k ≤ a) := i_le k a
theorem i_eq (a b : Nat) : ((a : Int) = (b : Int)) = (a = b) := by simp; omega
theorem i_eql (a k : Nat) : ((a : Int) = (no_index (OfNat.ofNat k) : Int)) = (a = OfNat.ofNat k) := i_eq a k
theorem i_leq (a k : Nat) : ((no_index (OfNat.ofNat k) : Int) = (a : Int)) = (OfNat.ofNat k = a) := i_eq k a
theorem d_beq (a b : Int) : (a == b) = decide (a = b) := by rw [Bool.eq_iff_iff]; simp
theorem d_bne (a b : Int) : (a != b) = !decide (a = b) := by rw [bne, d_beq]
theorem d_bytes (l m : List UInt8) : (l == m) = decide (l = m) := by rw [Bool.eq_iff_iff]; simp
theorem byte_at {l : List UInt8} {i : Nat} (h : i < l.length) : l[i]? = some (l.getD i 0) := by
  rw [List.getD_eq_getElem?_getD, List.getElem?_eq_getElem h]; rfl
theorem bytesL (l : List UInt8) : l.map (fun b => AV.int .u8 (b.toNat : Int)) = l.map byteV := rfl
theorem toNat_lit (k : Nat) : (no_index (OfNat.ofNat k) : Int).toNat = OfNat.ofNat k := rfl
section
variable {C : (Nat → List AV → AHeap → (AV → AHeap → Prop) → Prop)} {k : List Fr} {a : List AV} {H : AHeap} {Q : AExit → List AV → AHeap → Prop} {l : List AOper} {d : Option Nat}
theorem cnd_dec {p : Prop} [Decidable p] {x y : ACode} (h1 : p → go C x k a H Q) (h2 : ¬ p → go C y k a H Q) : cnd C (.bool (decide p)) x y k a H Q :=
  cnd_split (fun h => h1 (of_decide_eq_true h)) (fun h => h2 (of_decide_eq_false h))
/-! ### rows that were there already -/
theorem hp_getn {H' : AHeap} {n i : Nat} {l : List AObj} (h : H'.next = n) : (hp H' l).get (n + i) = l[i]? := by subst h; exact hp_get _ _ _
theorem hp_setn {H' : AHeap} {n i : Nat} {l : List AObj} {o : AObj} (h : H'.next = n) : (hp H' l).set (n + i) o = hp H' (l.set i o) := by subst h; exact hp_set _ _ _ _
section
variable (H : AHeap) (l : List AObj) (o o1 o2 o3 : AObj) (a b c i : Nat)
theorem hp_get1 : (hp (H.set a o1) l).get (H.next + i) = l[i]? := hp_getn (set_next _ _ _)
theorem hp_get2 : (hp ((H.set a o1).set b o2) l).get (H.next + i) = l[i]? := hp_getn rfl
theorem hp_get3 : (hp (((H.set a o1).set b o2).set c o3) l).get (H.next + i) = l[i]? := hp_getn rfl
theorem hp_set1 : (hp (H.set a o1) l).set (H.next + i) o = hp (H.set a o1) (l.set i o) := hp_setn (set_next _ _ _)
theorem hp_set2 : (hp ((H.set a o1).set b o2) l).set (H.next + i) o = hp ((H.set a o1).set b o2) (l.set i o) := hp_setn rfl
theorem hp_set3 : (hp (((H.set a o1).set b o2).set c o3) l).set (H.next + i) o = hp (((H.set a o1).set b o2).set c o3) (l.set i o) := hp_setn rfl
end
theorem hp_old {H' : AHeap} {i : Nat} {l : List AObj} (h : i < H'.next) : (hp H' l).get i = H'.get i := hp_get_old _ _ _ h
theorem hp_sold {H' : AHeap} {i : Nat} {l : List AObj} {o : AObj} (h : i < H'.next) : (hp H' l).set i o = hp (H'.set i o) l := hp_set_old _ _ _ _ h
theorem set_got {H' : AHeap} {i : Nat} {o : AObj} (h : i < H'.next) : (H'.set i o).get i = some o := set_get_same _ _ _ h
theorem set_other {H' : AHeap} {i j : Nat} {o : AObj} (h : j ≠ i) : (H'.set i o).get j = H'.get j := set_get_ne _ _ _ _ h
/-! ### slices that are handed in: nil, empty, or with elements -/
def slA (k sz : Nat) : List AV → AV
  | [] => match k with
    | 0 => .nils
    | 1 => .emp
    | _ => .imm sz []
  | x :: xs => .imm sz (x :: xs)
section
variable (k sz : Nat) (xs : List AV) (H : AHeap)
theorem slA_cases (k sz : Nat) (xs : List AV) : (slA k sz xs = .nils ∧ xs = []) ∨ (slA k sz xs = .emp ∧ xs = []) ∨ slA k sz xs = .imm sz xs := by
  cases xs with
  | nil => match k with
    | 0 => exact .inl ⟨rfl, rfl⟩
    | 1 => exact .inr (.inl ⟨rfl, rfl⟩)
    | _ + 2 => exact .inr (.inr rfl)
  | cons x xs => exact .inr (.inr rfl)
theorem slA_len : alenL (slA k sz xs) = some (.int .i64 (xs.length : Int)) := by
  rcases slA_cases k sz xs with ⟨h, rfl⟩ | ⟨h, rfl⟩ | h <;> rw [h] <;> rfl
theorem slA_idx (kk : IntKind) (i : Int) : aidxSl sz (slA k sz xs) (.int kk i) = if 0 ≤ i then (xs[i.toNat]?).map (fun x => .rd x.cells) else none := by
  rcases slA_cases k sz xs with ⟨h, rfl⟩ | ⟨h, rfl⟩ | h <;> rw [h] <;> simp [aidxSl]
theorem slA_cells : acells H sz (slA k sz xs) = some (xs.length, xs.flatMap AV.cells) := by
  rcases slA_cases k sz xs with ⟨h, rfl⟩ | ⟨h, rfl⟩ | h <;> rw [h] <;> simp [acells]
theorem flat_slA : (slA k sz xs).flat = true := by
  rcases slA_cases k sz xs with ⟨h, rfl⟩ | ⟨h, rfl⟩ | h <;> rw [h] <;> rfl
theorem one_slA : (slA k sz xs).one = true := by
  rcases slA_cases k sz xs with ⟨h, rfl⟩ | ⟨h, rfl⟩ | h <;> rw [h] <;> rfl
theorem cells_slA : (slA k sz xs).cells = [slA k sz xs] := by
  rcases slA_cases k sz xs with ⟨h, rfl⟩ | ⟨h, rfl⟩ | h <;> rw [h] <;> rfl
theorem map_mid {α : Type} (f : α → AV) (p : List α) (t : α) (q : List α) : (List.map f (p ++ t :: q))[p.length]? = some (f t) := by
  rw [List.getElem?_map, List.getElem?_append_right (Nat.le_refl _), Nat.sub_self]
  rfl
/-- Texts. -/
def strV (l : List UInt8) : AV := .str (B l)
theorem strV_is (l : List UInt8) : strV l = .str (B l) := rfl
end
theorem strs_at {ls : List (List UInt8)} {i : Nat} (h : i < ls.length) : (ls.map strV)[i]? = some (strV (ls.getD i [])) := by
  rw [List.getElem?_map, List.getElem?_eq_getElem h, List.getD_eq_getElem?_getD, List.getElem?_eq_getElem h]
  rfl
theorem all_step {α : Type} {p : α → Bool} {l : List α} {i : Nat} {d : α} (h : i < l.length) : (l.take (i + 1)).all p = ((l.take i).all p && p (l.getD i d)) := by
  rw [List.take_add_one, List.getElem?_eq_getElem h, List.all_append, List.getD_eq_getElem?_getD, List.getElem?_eq_getElem h]
  simp
theorem all_stop {α : Type} {p : α → Bool} {l : List α} {i n : Nat} {d : α} (h : i < l.length) (hi : i < n) (hp : p (l.getD i d) = false) : (l.take n).all p = false := by
  rw [List.all_eq_false]
  refine ⟨l.getD i d, ?_, by rw [hp]; simp⟩
  rw [List.getD_eq_getElem?_getD, List.getElem?_eq_getElem h, Option.getD_some]
  exact List.mem_take_iff_getElem.2 ⟨i, by omega, rfl⟩
/-! ### what leads to rows below n -/
def AllU (n : Nat) (l : List AV) : Prop := ∀ c ∈ l, c.under n
def AllC (n : Nat) (l : List AV) : Prop := ∀ x ∈ l, ∀ c ∈ x.cells, c.under n
section
variable (n : Nat)
theorem u_top : AV.under n .top = True := eq_true .top
theorem u_bool (b : Bool) : AV.under n (.bool b) = True := eq_true (.bool b)
theorem u_int (k : IntKind) (i : Int) : AV.under n (.int k i) = True := eq_true (.int k i)
theorem u_str (s : ByteArray) : AV.under n (.str s) = True := eq_true (.str s)
theorem u_nilp : AV.under n .nilp = True := eq_true .nilp
theorem u_nils : AV.under n .nils = True := eq_true .nils
theorem u_nilf : AV.under n .nilf = True := eq_true .nilf
theorem u_nilm : AV.under n .nilm = True := eq_true .nilm
theorem u_nili : AV.under n .nili = True := eq_true .nili
theorem u_emp : AV.under n .emp = True := eq_true .emp
theorem u_byteV (b : UInt8) : AV.under n (byteV b) = True := eq_true (.int _ _)
theorem u_ptr (id gen off : Nat) : AV.under n (.ptr id gen off) = (id < n) := propext ⟨fun h => by cases h; assumption, fun h => .ptr _ _ _ h⟩
theorem u_wr (id gen off len sz : Nat) : AV.under n (.wr id gen off len sz) = (id < n) := propext ⟨fun h => by cases h; assumption, fun h => .wr _ _ _ _ _ h⟩
theorem u_wc (id gen off len cap sz : Nat) : AV.under n (.wc id gen off len cap sz) = (id < n) := propext ⟨fun h => by cases h; assumption, fun h => .wc _ _ _ _ _ _ h⟩
theorem u_agg (cs : List AV) : AV.under n (.agg cs) = AllU n cs := propext ⟨fun h => by cases h; assumption, fun h => .agg _ h⟩
theorem u_tup (cs : List AV) : AV.under n (.tup cs) = AllU n cs := propext ⟨fun h => by cases h; assumption, fun h => .tup _ h⟩
theorem u_rd (cs : List AV) : AV.under n (.rd cs) = AllU n cs := propext ⟨fun h => by cases h; assumption, fun h => .rd _ h⟩
theorem u_imm (sz : Nat) (xs : List AV) : AV.under n (.imm sz xs) = AllC n xs := propext ⟨fun h => by cases h; assumption, fun h => .imm _ _ h⟩
theorem u_func (fn : Fn) (fs cs : List AV) : AV.under n (.func fn fs cs) = (AllU n fs ∧ AllU n cs) := propext ⟨fun h => by cases h; exact ⟨by assumption, by assumption⟩, fun h => .func _ _ _ h.1 h.2⟩
theorem u_nil : AllU n [] = True := eq_true (fun c hc => by simp at hc)
theorem u_cons (c : AV) (l : List AV) : AllU n (c :: l) = (c.under n ∧ AllU n l) := by simp [AllU]
theorem u_app (l m : List AV) : AllU n (l ++ m) = (AllU n l ∧ AllU n m) := by
  apply propext
  constructor
  · exact fun h => ⟨fun c hc => h c (by simp [hc]), fun c hc => h c (by simp [hc])⟩
  · rintro ⟨h1, h2⟩ c hc
    rcases List.mem_append.1 hc with h | h
    · exact h1 c h
    · exact h2 c h
theorem uc_nil : AllC n [] = True := eq_true (fun c hc => by simp at hc)
theorem uc_cons (c : AV) (l : List AV) : AllC n (c :: l) = (AllU n c.cells ∧ AllC n l) := by simp [AllC, AllU]
theorem uc_app (l m : List AV) : AllC n (l ++ m) = (AllC n l ∧ AllC n m) := by
  apply propext
  constructor
  · exact fun h => ⟨fun c hc => h c (by simp [hc]), fun c hc => h c (by simp [hc])⟩
  · rintro ⟨h1, h2⟩ c hc
    rcases List.mem_append.1 hc with h | h
    · exact h1 c h
    · exact h2 c h
theorem u_map {α : Type} {f : α → AV} (l : List α) (h : ∀ a, (f a).under n) : AllU n (l.map f) := fun c hc => by
  obtain ⟨a, _, rfl⟩ := List.mem_map.1 hc
  exact h a
theorem uc_map {α : Type} {f : α → AV} (l : List α) (h : ∀ a, AllU n (f a).cells) : AllC n (l.map f) := fun x hx => by
  obtain ⟨a, _, rfl⟩ := List.mem_map.1 hx
  exact h a
theorem u_slA (k sz : Nat) (xs : List AV) : AV.under n (slA k sz xs) = AllC n xs := by
  rcases slA_cases k sz xs with ⟨h, rfl⟩ | ⟨h, rfl⟩ | h <;> rw [h]
  · rw [u_nils, uc_nil]
  · rw [u_emp, uc_nil]
  · rw [u_imm]
theorem uc_strs (l : List (List UInt8)) : AllC n (l.map strV) = True := eq_true (uc_map n l (fun _ => by rw [strV_is, cells_str, u_cons, u_str, u_nil]; exact ⟨trivial, trivial⟩))
theorem u_bytes (l : List UInt8) : AllU n (l.map byteV) = True := eq_true (u_map n l (fun _ => .int _ _))
theorem uc_bytes (l : List UInt8) : AllC n (l.map byteV) = True := eq_true (uc_map n l (fun _ => by rw [cells_byteV, u_cons, u_byteV, u_nil]; exact ⟨trivial, trivial⟩))
theorem u_ints (k : IntKind) (l : List Int) : AllU n (l.map (AV.int k)) = True := eq_true (u_map n l (fun _ => .int _ _))
theorem uc_ints (k : IntKind) (l : List Int) : AllC n (l.map (AV.int k)) = True := eq_true (uc_map n l (fun _ => by rw [cells_int, u_cons, u_int, u_nil]; exact ⟨trivial, trivial⟩))
end
theorem within_set {H1 : AHeap} {n i : Nat} {e : TypeId} {g : Nat} {cs : List AV} (hs : H1.within n) (ho : AllU n cs) : (H1.set i (.row e g cs)).within n := by
  intro id o h1 h2
  simp only [AHeap.set] at h2
  split at h2
  · obtain rfl := Option.some.inj h2
    exact ho
  · exact hs id o h1 h2
theorem within_setO {H1 : AHeap} {n i : Nat} {o : AObj} (hs : H1.within n) (ho : o.under n) : (H1.set i o).within n := by
  intro id o' h1 h2
  simp only [AHeap.set] at h2
  split at h2
  · obtain rfl := Option.some.inj h2
    exact ho
  · exact hs id o' h1 h2
theorem within_hp {H1 : AHeap} {l : List AObj} (hl : ∀ o ∈ l, o.under (H1.next + l.length)) (hm : ∀ id o, id < H1.next → H1.get id = some o → o.under (H1.next + l.length)) : (hp H1 l).within (hp H1 l).next := by
  intro id o h1 h2
  rw [hp_next] at h1 ⊢
  simp only [hp] at h2
  split at h2
  · rename_i h3; exact hm id o h3 h2
  · exact hl o (List.mem_of_getElem? h2)
theorem aret_wr {H : AHeap} {K : AV → AHeap → Prop} {l : List AObj} {i gen len sz : Nat} {e : TypeId} {cs : List AV} (xs : List AV) (hrow : l[i]? = some (.row e gen cs)) (hx : ∀ x ∈ xs, x.cells.length = sz) (hn : xs.length = len) (hc : cs = xs.flatMap AV.cells)
    (hs : H.within H.next) (hu : (AV.imm sz xs).under H.next) (hk : K (.imm sz xs) H) : ARet H.next K (.wr (H.next + i) gen 0 len sz) (hp H l) :=
  aret_own (shut_wr hrow hx hn hc) (own_kill i own_hp) hs hu hk
/-! ### loops by the slots that they change -/
/-- Slots that code writes to are forgotten. -/
def blurR : List AOper → List AV → List AV
  | [], a => a
  | o :: l, a => match o.dst with
    | some d => blurR l (a.set d .top)
    | none => blurR l a
def blurT : List Nat → List AV → List AV
  | [], a => a
  | t :: ts, a => blurT ts (a.set t .top)
def blurC : ACode → List AV → List AV
  | .region ops, a => blurR ops a
  | .regionN _ ops, a => blurR ops a
  | .fregion ts ops, a => blurR ops (blurT ts a)
  | .seq x y, a => blurC y (blurC x a)
  | .both x y, a => blurC y (blurC x a)
  | .cond _ x y, a => blurC y (blurC x a)
  | .block _ c, a => blurC c a
  | .loop c, a => blurC c a
  | .skip, a => a
  | .exit _, a => a
  | .ret, a => a
def tellS : List (Nat × AV) → List AV → List AV
  | [], a => a
  | (t, y) :: us, a => tellS us (a.set t y)
theorem blurR_nil (a : List AV) : blurR [] a = a := rfl
theorem blurR_some (d : Nat) (op : AOp) (g : Option (Nat × Bool)) (l : List AOper) (a : List AV) : blurR (⟨some d, op, g⟩ :: l) a = blurR l (a.set d .top) := rfl
theorem blurR_none (op : AOp) (g : Option (Nat × Bool)) (l : List AOper) (a : List AV) : blurR (⟨none, op, g⟩ :: l) a = blurR l a := rfl
theorem blurC_region (ops : List AOper) (a : List AV) : blurC (.region ops) a = blurR ops a := rfl
theorem blurC_regionN (n : Nat) (ops : List AOper) (a : List AV) : blurC (.regionN n ops) a = blurR ops a := rfl
theorem blurC_fregion (ts : List Nat) (ops : List AOper) (a : List AV) : blurC (.fregion ts ops) a = blurR ops (blurT ts a) := rfl
theorem blurT_nil (a : List AV) : blurT [] a = a := rfl
theorem blurT_cons (t : Nat) (ts : List Nat) (a : List AV) : blurT (t :: ts) a = blurT ts (a.set t .top) := rfl
theorem frz_wr {t id gen len : Nat} {e : TypeId} {cs : List AV} (ht : t < 300000) (ha : a.getD t .top = .wr id gen 0 len 1) (hg : H.get id = some (.row e gen cs)) (hl : cs.length = len) (ho : cs.all AV.one = true) : frzS [t] a H = some (a.set t (.imm 1 cs), H.kill id) := by
  simp only [frzS, frz1, Nat.not_le.2 ht, if_false, ha, hg, hl, ho, true_and, if_true]
theorem frz_deep {T t id gen off : Nat} {e : TypeId} {cs : List AV} {H' : AHeap} (h : 300000 ≤ T) (h2 : T - 300000 = t) (ha : a.getD t .top = .ptr id gen off) (hg : H.get id = some (.row e gen cs)) (hd : deepL id e gen [] cs H = some H') : frzS [T] a H = some (a, H') := by
  simp only [frzS, frz1, frzD, h, h2, ha, hg, if_true, hd, Option.map_some]
theorem frz_one {t id gen off : Nat} {e : TypeId} {cs : List AV} (ha : a.getD t .top = .ptr id gen off) (hg : H.get id = some (.row e gen cs)) (ht : t < 300000 := by decide) : frzS [t] a H = some (a.set t (.rd (cs.drop off)), H.kill id) := by
  simp only [frzS, frz1, Nat.not_le.2 ht, if_false, ha, hg, if_true]
theorem blurC_seq (x y : ACode) (a : List AV) : blurC (.seq x y) a = blurC y (blurC x a) := rfl
theorem blurC_both (x y : ACode) (a : List AV) : blurC (.both x y) a = blurC y (blurC x a) := rfl
theorem blurC_cond (c : AX) (x y : ACode) (a : List AV) : blurC (.cond c x y) a = blurC y (blurC x a) := rfl
theorem blurC_block (i : Nat) (c : ACode) (a : List AV) : blurC (.block i c) a = blurC c a := rfl
theorem blurC_loop (c : ACode) (a : List AV) : blurC (.loop c) a = blurC c a := rfl
theorem blurC_skip (a : List AV) : blurC .skip a = a := rfl
theorem blurC_exit (i : Nat) (a : List AV) : blurC (.exit i) a = a := rfl
theorem blurC_ret (a : List AV) : blurC .ret a = a := rfl
theorem tellS_nil (a : List AV) : tellS [] a = a := rfl
theorem tellS_cons (t : Nat) (y : AV) (us : List (Nat × AV)) (a : List AV) : tellS ((t, y) :: us) a = tellS us (a.set t y) := rfl
/-- A loop: us tells the slots that differ from round to round; what else its code writes to is forgotten. -/
theorem go_loopS (hC : Mono C) {σ : Type} (us : σ → List (Nat × AV)) (hh : σ → AHeap) (ok : σ → Prop) (μ : σ → Nat) (s0 : σ) {c : ACode} (h0 : Forget a (tellS (us s0) (blurC c a))) (hH : H = hh s0) (hok : ok s0)
    (round : ∀ s, ok s → ∀ J : List AV → AHeap → Prop, (∀ s' a', ok s' → μ s' < μ s → Forget a' (tellS (us s') (blurC c a)) → J a' (hh s')) → go C c (.cut J :: k) (tellS (us s) (blurC c a)) (hh s) Q) : go C (.loop c) k a H Q :=
  go_loop hC (fun s => tellS (us s) (blurC c a)) hh ok μ s0 h0 hH hok round
end
end Go.Proofs.YtmdgjfadbhenjaaGreatDoor.AL
/- Functions of the library without a body, told: the kit says what the machine's stand-ins for them answer. -/
set_option linter.unusedSimpArgs false
set_option linter.unusedVariables false
namespace Go.Proofs.YtmdgjfadbhenjaaGreatDoor.AL
open Go Go.Proofs
/-- A function that the machine stands in for, of which one value comes. -/
theorem acalls_ext {P : Program} {f : Nat} {args : List AV} {H : AHeap} {K : AV → AHeap → Prop}
    (h : ∀ g w vs, Sim g w H → Reps g w vs args → ∃ v w' g' y H', (callFunc f vs).run P w = .ok (.value v) w' ∧ Ext g w g' w' ∧ Sim g' w' H' ∧ Rep g' w' v y ∧ K y H') : ACalls P f args H K := by
  intro g w vs hS hR o act next Qc hn
  obtain ⟨v, w', g', y, H', h1, h2, h3, h4, h5⟩ := h g w vs hS hR
  rw [h1, Oper.upon_value]
  exact hn y H' g' w' v h5 h2 h3 h4
/-- A function that the machine stands in for, that leaves memory alone. -/
theorem acalls_extq {P : Program} {f : Nat} {args : List AV} {H : AHeap} {K : AV → AHeap → Prop} {y : AV} (hk : K y H)
    (h : ∀ g w vs, Sim g w H → Reps g w vs args → ∃ v, (callFunc f vs).run P w = .ok (.value v) w ∧ Rep g w v y) : ACalls P f args H K :=
  acalls_ext fun g w vs hS hR => by
    obtain ⟨v, h1, h2⟩ := h g w vs hS hR
    exact ⟨v, w, g, y, H, h1, Ext.refl _ _, hS, h2, hk⟩
theorem reps_two {g : Ghost} {w : World} {vs : Array Value} {x y : AV} (h : Reps g w vs [x, y]) : ∃ u v, vs = #[u, v] ∧ Rep g w u x ∧ Rep g w v y := by
  obtain ⟨l⟩ := vs
  match l, h with
  | [u, v], h => exact ⟨u, v, rfl, h.2 0 u x rfl rfl, h.2 1 v y rfl rfl⟩
  | [], h => have := h.1; simp at this
  | [_], h => have := h.1; simp at this
  | _ :: _ :: _ :: _, h => have := h.1; simp at this
end Go.Proofs.YtmdgjfadbhenjaaGreatDoor.AL
/- From told calls to the machine's. -/
set_option linter.unusedVariables false
set_option linter.unusedSimpArgs false
namespace Go.Proofs.YtmdgjfadbhenjaaGreatDoor.AL
open Go Go.RowKit
/-- Nobody writes to what is there already. -/
def g0 (w : World) : Ghost := ⟨fun _ _ => none, fun b => b < w.heap.size⟩
def H0 : AHeap := ⟨0, fun _ => none, fun _ _ => rfl⟩
theorem sim0 (w : World) (hv : VarOk (g0 w) w) : Sim (g0 w) w H0 :=
  ⟨(fun b h => h), (fun id gen b h => by cases h), (fun id o h => by cases h), (fun id id' o o' b h => by cases h), (fun id o b h => by cases h), (fun id o gen b h => by cases h), hv⟩
theorem ext_below {w w' : World} {g' : Ghost} (h : Ext (g0 w) w g' w') : Below w.heap.size w w' := ⟨h.os, h.tape, h.output, h.size, fun k hk => h.same k hk⟩
theorem calls_at {P : Program} {f : Nat} {n : Nat} {ac : ACode} {rs : List RV} (hT : Told P f n ac rs) {args : List AV} {K : AV → AHeap → Prop} {w : World} {vs : Array Value} (h : ACalls P f args H0 K) (hR : Reps (g0 w) w vs args) (hv : VarOk (g0 w) w := by first | assumption | exact fun _ h => absurd h List.not_mem_nil) :
    Calls P f vs w fun e w' => ∃ v y H' g', e = .returned v ∧ K y H' ∧ Rep g' w' v y ∧ Below w.heap.size w w' := by
  obtain ⟨fn, c, W, hf, hb, hname, _⟩ := hT.tell
  have hrun : (callFunc f vs).run P w = .ok (.enter f vs) w := by
    simp only [callFunc, Sem.run_bind, run_program, Result.andThen_ok, hf, hname, hb, Option.isNone_some, Bool.false_eq_true, if_false, Sem.run_pure]
  let o : Oper := { (default : Oper) with dst := some 0 }
  have := h (g0 w) w vs (sim0 w hv) hR o ⟨#[undef], []⟩ (fun a w' => ∃ y H' g', K y H' ∧ Rep g' w' (a.tmps.getD 0 undef) y ∧ Below w.heap.size w w') (fun _ _ _ => False) (fun y H' g' w' v hk hE hS hr => ⟨y, H', g', hk, by simpa [Act.put, o] using hr, ext_below hE⟩)
  rw [hrun, Oper.upon_enter] at this
  refine this.mono (fun e w' he => ?_)
  cases e with
  | returned v =>
    obtain ⟨y, H', g', h1, h2, h3⟩ := he
    exact ⟨v, y, H', g', rfl, h1, by simpa [Act.put, o] using h2, h3⟩
  | panicked ch => exact he.elim
  | outgrown => obtain ⟨_, _, h⟩ := he; exact h.elim
theorem calls_true {P : Program} {f : Nat} {n : Nat} {ac : ACode} {rs : List RV} (hT : Told P f n ac rs) {args : List AV} {w : World} {vs : Array Value} (h : ACalls P f args H0 (fun y _ => y = .bool true)) (hR : Reps (g0 w) w vs args) (hv : VarOk (g0 w) w := by first | assumption | exact fun _ h => absurd h List.not_mem_nil) :
    Calls P f vs w fun e w' => e = .returned (.bool true) ∧ Below w.heap.size w w' := by
  refine (calls_at hT h hR hv).mono (fun e w' he => ?_)
  obtain ⟨v, y, H', g', rfl, rfl, h2, h3⟩ := he
  exact ⟨by rw [bool_inv h2], h3⟩
theorem reps_nil {g : Ghost} {w : World} : Reps g w #[] [] := ⟨rfl, fun i v y h => by simp at h⟩
theorem reps_cons {g : Ghost} {w : World} {v : Value} {y : AV} {vs : List Value} {ys : List AV} (h : Rep g w v y) (h2 : Reps g w vs.toArray ys) : Reps g w (v :: vs).toArray (y :: ys) := by
  refine ⟨by simpa using h2.1, fun i u z hu hz => ?_⟩
  cases i with
  | zero => simp at hu hz; subst hu; subst hz; exact h
  | succ i => exact h2.2 i u z (by simpa using hu) (by simpa using hz)
end Go.Proofs.YtmdgjfadbhenjaaGreatDoor.AL
/- How a law's arguments are opened: what reads as data of a type is told by the plain picture. Over any program. -/
set_option linter.unusedVariables false
set_option linter.unusedSimpArgs false
namespace Go.Proofs.YtmdgjfadbhenjaaGreatDoor.AL
open Go Go.RowKit
section
variable {P : Program}
def RepL (W : World) (cs : List Value) (ys : List AV) : Prop := cs.length = ys.length ∧ ∀ (i : Nat) (v : Value) (y : AV), cs[i]? = some v → ys[i]? = some y → Rep (g0 W) W v y
theorem repL_one {W : World} {v : Value} {y : AV} (h : Rep (g0 W) W v y) : RepL W [v] [y] := ⟨rfl, fun i u z hu hz => by
  cases i with
  | zero => simp at hu hz; subst hu; subst hz; exact h
  | succ i => simp at hu⟩
/-- What reads as data of type t (with n levels to spare) has cells of which Y holds. -/
def OpenAt (P : Program) (t : TypeId) (Y : List AV → Prop) (n : Nat) : Prop :=
  ∀ (H : Type) (enc : TypeId × Value → H) (W : World) (cs : List Value) (x : DataW H × List MemPlace), DataW.trod enc P W 0 (fun _ => true) true n t cs = some x → ∃ ys, RepL W cs ys ∧ Y ys
def Opens (P : Program) (t : TypeId) (Y : List AV → Prop) : Prop := ∀ n, OpenAt P t Y n
theorem opens_str {t : TypeId} (hu : P.underlying t = some .string) : Opens P t (fun ys => ∃ s, s.size ≤ 9223372036854775807 ∧ ys = [.str s]) := by
  intro n H enc W cs x h
  obtain ⟨s, rfl, _, hs⟩ := DataW.trod_string hu h
  exact ⟨_, repL_one (.str s), s, hs, rfl⟩
theorem mapM_range' {γ : Type} {f : Nat → Option γ} {n : Nat} {l : List γ} (h : (List.range n).mapM f = some l) : l.length = n ∧ ∀ i, i < n → f i = l[i]? := by
  have h1 := mapM_some_length h
  refine ⟨by simpa using h1, fun i hi => ?_⟩
  have := mapM_some_get h i i (by simp [hi])
  simpa using this
theorem cells_at' {W : World} {a : Addr} {n : Nat} {cs : List Value} (h : W.cells? 0 a n = some cs) : cs.length = n ∧ ∀ i u, cs[i]? = some u → W.cell? (a.add i) = some u := by
  unfold World.cells? at h
  rw [if_pos (Nat.zero_le _)] at h
  obtain ⟨h1, h2⟩ := mapM_range' h
  refine ⟨h1, fun i u hu => ?_⟩
  have hi : i < n := by rw [← h1]; exact (List.getElem?_eq_some_iff.1 hu).1
  exact (h2 i hi).trans hu
theorem add_add' (a : Addr) (i j : Nat) : (a.add i).add j = a.add (i + j) := by
  unfold Addr.add
  by_cases hi : i = 0
  · subst hi; simp
  · by_cases hj : j = 0
    · subst hj; simp
    · simp [hi, hj, show i + j ≠ 0 by omega, Nat.add_assoc]
theorem choose_list' {γ : Type} {Q : Nat → γ → Prop} (n : Nat) (h : ∀ i, i < n → ∃ a, Q i a) : ∃ l : List γ, l.length = n ∧ ∀ i a, l[i]? = some a → Q i a := by
  induction n with
  | zero => exact ⟨[], rfl, fun i a h => by simp at h⟩
  | succ n ih =>
    obtain ⟨l, hl, hq⟩ := ih (fun i hi => h i (by omega))
    obtain ⟨a, ha⟩ := h n (by omega)
    refine ⟨l ++ [a], by simp [hl], fun i b hb => ?_⟩
    by_cases hi : i < n
    · rw [List.getElem?_append_left (by omega)] at hb
      exact hq i b hb
    · have hi2 : i = n := by
        have := (List.getElem?_eq_some_iff.1 hb).1
        simp at this
        omega
      subst hi2
      rw [List.getElem?_append_right (by omega), hl] at hb
      simp at hb
      subst hb
      exact ha
theorem cell_of {W : World} {a : Addr} {u : Value} (h : W.cell? a = some u) : a.spot = none ∧ a.block < W.heap.size := by
  unfold World.cell? at h
  split at h
  · rename_i hb
    split at h
    · cases h
    · rename_i hs
      exact ⟨by simpa using hs, (Array.getElem?_eq_some_iff.1 hb).1⟩
  · cases h
/-- Slices whose elements are each of sz cells; pk packs an element's cells. -/
theorem openAt_slice {t e : TypeId} {Y : List AV → Prop} {n sz : Nat} (pk : List AV → AV) (hu : P.underlying t = some (.slice e)) (hc : P.cellsOf e = sz) (h0 : 0 < sz) (hpk : ∀ ys, Y ys → (pk ys).cells = ys) (h : OpenAt P e Y n) :
    OpenAt P t (fun zs => zs = [.nils] ∨ zs = [.emp] ∨ ∃ xs : List (List AV), xs ≠ [] ∧ xs.length ≤ 9223372036854775807 ∧ zs = [.imm sz (xs.map pk)] ∧ ∀ ys ∈ xs, Y ys ∧ ys.length = sz) (n + 1) := by
  intro H enc W cs x hx
  rcases DataW.trod_slice hu hx with ⟨rfl, _⟩ | ⟨a, len, cap, elems, rest, m, hm, rfl, _, _, hl, hcap, hlen, he, _, _⟩
  · exact ⟨[.nils], repL_one .nils, .inl rfl⟩
  · have hnm : n = m := by omega
    subst hnm
    rw [hc] at he
    by_cases hz : len = 0
    · subst hz
      exact ⟨[.emp], repL_one (.emp a cap), .inr (.inl rfl)⟩
    have h1 : ∀ i, i < len → ∃ p : List AV, Y p ∧ p.length = sz ∧ ∀ j, j < sz → ∃ u, W.cell? (a.add (i * sz + j)) = some u ∧ ∀ y, p[j]? = some y → Rep (g0 W) W u y := by
      intro i hi
      have h2 := he i hi
      rw [List.getElem?_eq_getElem (by omega)] at h2
      obtain ⟨c, hcs, hxs⟩ := Option.bind_eq_some_iff.1 h2
      obtain ⟨p, hp, hw⟩ := h H enc W c _ hxs
      obtain ⟨hcl, hcc⟩ := cells_at' hcs
      refine ⟨p, hw, by rw [← hp.1, hcl], fun j hj => ?_⟩
      have hj2 : j < c.length := by omega
      refine ⟨c[j], by rw [← add_add']; exact hcc j _ (List.getElem?_eq_getElem hj2), fun y hy => hp.2 j _ y (List.getElem?_eq_getElem hj2) hy⟩
    obtain ⟨l, hll, hq⟩ := choose_list' len h1
    have hq' : ∀ ys ∈ l, Y ys ∧ ys.length = sz := by
      intro ys hy
      obtain ⟨i, hi⟩ := List.getElem?_of_mem hy
      exact ⟨(hq i ys hi).1, (hq i ys hi).2.1⟩
    have hspot : a.spot = none ∧ a.block < W.heap.size := by
      obtain ⟨_, _, h3⟩ := hq 0 (l[0]'(by omega)) (List.getElem?_eq_getElem _)
      obtain ⟨u, hu', _⟩ := h3 0 h0
      have := cell_of hu'
      simpa [Addr.add] using this
    obtain ⟨b, o, s⟩ := a
    obtain ⟨hs, hb⟩ := hspot
    simp only at hs hb
    subst hs
    have hcap' : cap ≤ 9223372036854775807 := hcap
    have hnz : l ≠ [] := by intro e; subst e; simp at hll; omega
    refine ⟨[.imm sz (l.map pk)], repL_one ?_, .inr (.inr ⟨l, hnz, by omega, rfl, hq'⟩)⟩
    refine .imm sz (l.map pk) b o len cap (fun k => (W.cell? ⟨b, o + k, none⟩).getD undef) (by simp [hll]) hl hcap hb ?_ ?_ ?_
    · intro x hx
      obtain ⟨ys, hys, rfl⟩ := List.mem_map.1 hx
      rw [hpk ys (hq' ys hys).1]
      exact (hq' ys hys).2
    · intro k hk
      have hi : k / sz < len := (Nat.div_lt_iff_lt_mul h0).2 hk
      obtain ⟨_, _, h3⟩ := hq (k / sz) (l[k / sz]'(by omega)) (List.getElem?_eq_getElem _)
      obtain ⟨u, hu', _⟩ := h3 (k % sz) (Nat.mod_lt _ h0)
      rw [Nat.div_add_mod' k sz, Addr.add_lit] at hu'
      rw [hu']
      rfl
    · intro j x i y hj hi
      rw [List.getElem?_map] at hj
      obtain ⟨ys, hys, rfl⟩ := Option.map_eq_some_iff.1 hj
      obtain ⟨hY, hyl, h3⟩ := hq j ys hys
      rw [hpk ys hY] at hi
      have hi2 : i < sz := by rw [← hyl]; exact (List.getElem?_eq_some_iff.1 hi).1
      obtain ⟨u, hu', h4⟩ := h3 i hi2
      rw [Addr.add_lit] at hu'
      rw [hu']
      exact h4 y hi
theorem opens_slice {t e : TypeId} {Y : List AV → Prop} {sz : Nat} (pk : List AV → AV) (hu : P.underlying t = some (.slice e)) (hc : P.cellsOf e = sz) (h0 : 0 < sz) (hpk : ∀ ys, Y ys → (pk ys).cells = ys) (h : Opens P e Y) :
    Opens P t (fun zs => zs = [.nils] ∨ zs = [.emp] ∨ ∃ xs : List (List AV), xs ≠ [] ∧ xs.length ≤ 9223372036854775807 ∧ zs = [.imm sz (xs.map pk)] ∧ ∀ ys ∈ xs, Y ys ∧ ys.length = sz) := by
  intro n
  cases n with
  | zero => intro H enc W cs x hx; simp [DataW.trod] at hx
  | succ n => exact openAt_slice pk hu hc h0 hpk (h n)
/-- The fields of a struct from one on: their cells, one behind the other from a place on. -/
def FieldsAt (P : Program) (fs : List Field) (o sz : Nat) (Y : List AV → Prop) (n : Nat) : Prop :=
  ∀ (H : Type) (enc : TypeId × Value → H) (W : World) (cs : List Value), (∀ f ∈ fs, ∃ x, DataW.trod enc P W 0 (fun _ => true) true n f.type ((cs.drop f.offset).take (P.cellsOf f.type)) = some x) → cs.length = o + sz → ∃ ys, RepL W (cs.drop o) ys ∧ Y ys
theorem fields_one {f : Field} {o sz : Nat} {Y : List AV → Prop} {n : Nat} (ho : f.offset = o) (hc : P.cellsOf f.type = sz) (h : OpenAt P f.type Y n) : FieldsAt P [f] o sz Y n := by
  intro H enc W cs hf hl
  obtain ⟨x, hx⟩ := hf f (by simp)
  obtain ⟨ys, ha, hw⟩ := h H enc W _ x hx
  rw [ho, hc, List.take_of_length_le (by simp; omega)] at ha
  exact ⟨ys, ha, hw⟩
theorem fields_cons {f : Field} {fs : List Field} {o sz sz2 : Nat} {Y Y2 : List AV → Prop} {n : Nat} (ho : f.offset = o) (hc : P.cellsOf f.type = sz) (h : OpenAt P f.type Y n) (h2 : FieldsAt P fs (o + sz) sz2 Y2 n) :
    FieldsAt P (f :: fs) o (sz + sz2) (fun zs => ∃ ys ys2, zs = ys ++ ys2 ∧ Y ys ∧ Y2 ys2) n := by
  intro H enc W cs hf hl
  obtain ⟨x, hx⟩ := hf f (by simp)
  obtain ⟨ys, ha, hw⟩ := h H enc W _ x hx
  obtain ⟨ys2, hb, hw2⟩ := h2 H enc W cs (fun g hg => hf g (by simp [hg])) (by omega)
  rw [ho, hc] at ha
  have hla : ys.length = sz := by rw [← ha.1]; simp; omega
  refine ⟨ys ++ ys2, ⟨by rw [List.length_append, ← ha.1, ← hb.1]; simp; omega, fun i v y hv hy => ?_⟩, ys, ys2, rfl, hw, hw2⟩
  by_cases hi : i < sz
  · rw [List.getElem?_append_left (by omega)] at hy
    refine ha.2 i v y ?_ hy
    rw [List.getElem?_take, if_pos hi]
    exact hv
  · rw [List.getElem?_append_right (by omega), hla] at hy
    refine hb.2 (i - sz) v y ?_ hy
    rw [List.getElem?_drop] at hv ⊢
    rw [show o + sz + (i - sz) = o + i by omega]
    exact hv
theorem opens_struct {t : TypeId} {fs : Array Field} {sz : Nat} {Y : List AV → Prop} (hu : P.underlying t = some (.struct fs)) (hc : P.cellsOf t = sz) (h : ∀ n, FieldsAt P fs.toList 0 sz Y n) : Opens P t Y := by
  intro n
  cases n with
  | zero => intro H enc W cs x hx; simp [DataW.trod] at hx
  | succ n =>
    intro H enc W cs x hx
    obtain ⟨xs, m, hm, _, hl, hxl, hxs⟩ := DataW.trod_struct hu hx
    have hnm : n = m := by omega
    subst hnm
    obtain ⟨ys, ha, hw⟩ := h n H enc W cs (fun f hf => by
      obtain ⟨i, hi⟩ := List.getElem?_of_mem hf
      have hi' : fs[i]? = some f := by simpa using hi
      have hlt : i < xs.length := by rw [hxl]; exact (Array.getElem?_eq_some_iff.1 hi').1
      exact ⟨xs[i], (hxs i f hi').trans (List.getElem?_eq_getElem hlt)⟩) (by omega)
    exact ⟨ys, ha, hw⟩
theorem opens_mono {t : TypeId} {Y Y' : List AV → Prop} (hw : ∀ a, Y a → Y' a) (h : Opens P t Y) : Opens P t Y' := by
  intro n H enc W cs x hx
  obtain ⟨a, ha, hwa⟩ := h n H enc W cs x hx
  exact ⟨a, ha, hw a hwa⟩
theorem rep_agg {W : World} {cs : Array Value} {ys : List AV} (h : RepL W cs.toList ys) : Rep (g0 W) W (.agg cs) (.agg ys) :=
  .agg cs ys (by simpa using h.1) (fun i v y hv hy => h.2 i v y (by simpa using hv) hy)
end
end Go.Proofs.YtmdgjfadbhenjaaGreatDoor.AL
/- Rows of laws with slices of texts. -/
set_option linter.unusedSimpArgs false
set_option linter.unusedVariables false
namespace Go.Proofs.YtmdgjfadbhenjaaGreatDoor.AL
open Go Go.Proofs
end Go.Proofs.YtmdgjfadbhenjaaGreatDoor.AL
/- Rows of laws with a slice of elements of which something is known. -/
set_option linter.unusedSimpArgs false
set_option linter.unusedVariables false
namespace Go.Proofs.YtmdgjfadbhenjaaGreatDoor.AL
open Go Go.Proofs
theorem map_ofQ {α : Type} {f : α → List AV} {Q : α → Prop} {Y : List AV → Prop} (hY : ∀ ys, Y ys → ∃ a, Q a ∧ ys = f a) : ∀ (xs : List (List AV)), (∀ ys ∈ xs, Y ys) → ∃ l : List α, (∀ a ∈ l, Q a) ∧ xs = l.map f
  | [], _ => ⟨[], by simp, rfl⟩
  | ys :: xs, h => by
    obtain ⟨a, hq, rfl⟩ := hY ys (h ys (by simp))
    obtain ⟨l, hl, rfl⟩ := map_ofQ hY xs (fun zs hz => h zs (by simp [hz]))
    exact ⟨a :: l, by simpa using ⟨hq, hl⟩, rfl⟩
/-- Slices of what has cells of its own. -/
theorem opens_slQ {P : Program} {t e : TypeId} {α : Type} {f : α → List AV} {g : α → AV} {Q : α → Prop} {Y : List AV → Prop} {sz : Nat} (pk : List AV → AV) (hu : P.underlying t = some (.slice e)) (hc : P.cellsOf e = sz) (h0 : 0 < sz) (hY : ∀ ys, Y ys → ∃ a, Q a ∧ ys = f a) (hg : ∀ a, pk (f a) = g a) (hf : ∀ a, (g a).cells = f a) (h : Opens P e Y) :
    Opens P t (fun zs => ∃ (k : Nat) (l : List α), zs = [slA k sz (l.map g)] ∧ l.length ≤ 9223372036854775807 ∧ ∀ a ∈ l, Q a) := by
  refine opens_mono (fun zs hz => ?_) (opens_slice pk hu hc h0 (fun ys hy => ?_) h)
  · rcases hz with rfl | rfl | ⟨xs, h1, h2, rfl, h3⟩
    · exact ⟨0, [], rfl, by simp, by simp⟩
    · exact ⟨1, [], rfl, by simp, by simp⟩
    · obtain ⟨l, hl, rfl⟩ := map_ofQ hY xs (fun ys hy => (h3 ys hy).1)
      refine ⟨2, l, ?_, by simpa using h2, hl⟩
      rw [List.map_map, show pk ∘ f = g from funext hg]
      cases l <;> rfl
  · obtain ⟨a, hq, rfl⟩ := hY ys hy
    rw [hg, hf]
end Go.Proofs.YtmdgjfadbhenjaaGreatDoor.AL
/- Rows of one's own that stay. -/
set_option linter.unusedSimpArgs false
set_option linter.unusedVariables false
namespace Go.Proofs.YtmdgjfadbhenjaaGreatDoor.AL
open Go Go.Proofs
theorem up_under {n m : Nat} (hnm : n ≤ m) {y : AV} (h : y.under n) : y.under m := by
  induction h with
  | ptr id g o hid => exact .ptr _ _ _ (by omega)
  | wr id g o l z hid => exact .wr _ _ _ _ _ (by omega)
  | wc id g o l c z hid => exact .wc _ _ _ _ _ _ (by omega)
  | map id hid => exact .map _ (by omega)
  | imm sz xs _ ih => exact .imm _ _ ih
  | func fn fs cs _ _ ih1 ih2 => exact .func _ _ _ ih1 ih2
  | iface t y _ ih => exact .iface _ _ ih
  | agg cs _ ih => exact .agg _ ih
  | tup cs _ ih => exact .tup _ ih
  | rd cs _ ih => exact .rd _ ih
  | _ => constructor
theorem up_obj {n m : Nat} (hnm : n ≤ m) {o : AObj} (h : o.under n) : o.under m := by
  cases o with
  | row e g cs => exact fun c hc => up_under hnm (h c hc)
  | map es => exact fun e he => ⟨up_under hnm (h e he).1, up_under hnm (h e he).2⟩
  | iter s pos => trivial
end Go.Proofs.YtmdgjfadbhenjaaGreatDoor.AL
/- Heaps that have grown: what was there is as it was; slices of one's own that grow among other rows. -/
set_option linter.unusedSimpArgs false
set_option linter.unusedVariables false
set_option maxRecDepth 100000
set_option maxHeartbeats 16000000
namespace Go.Proofs.YtmdgjfadbhenjaaGreatDoor.AL
open Go Go.Proofs
structure Past (H G : AHeap) : Prop where
  next : H.next ≤ G.next
  get : ∀ i, i < H.next → G.get i = H.get i
section
variable {H G G2 : AHeap} {K : AV → AHeap → Prop} {y y1 : AV} {n0 : Nat}
theorem past_refl : Past H H := ⟨Nat.le_refl _, fun _ _ => rfl⟩
theorem past_trans (h : Past H G) (h2 : Past G G2) : Past H G2 := ⟨Nat.le_trans h.next h2.next, fun i hi => (h2.get i (Nat.lt_of_lt_of_le hi h.next)).trans (h.get i hi)⟩
theorem past_hp (h : Past H G) (l : List AObj) : Past H (hp G l) := ⟨Nat.le_trans h.next (Nat.le_add_right _ _), fun i hi => (hp_get_old _ _ _ (Nat.lt_of_lt_of_le hi h.next)).trans (h.get i hi)⟩
theorem past_set (h : Past H G) {i : Nat} (hi : H.next ≤ i) (o : AObj) : Past H (G.set i o) := ⟨h.next, fun j hj => (set_get_ne _ _ _ _ (by omega)).trans (h.get j hj)⟩
theorem past_kill (h : Past H G) {i : Nat} (hi : H.next ≤ i) : Past H (G.kill i) := ⟨h.next, fun j hj => (kill_get_ne _ _ _ (by omega)).trans (h.get j hj)⟩
theorem past_trunc (h : Past H G) : G.trunc H.next = H := by
  apply AHeap.ext'
  · exact Nat.min_eq_left h.next
  · intro j
    simp only [AHeap.trunc]
    split
    · rename_i hj; exact h.get j hj
    · exact (H.wf j (by omega)).symm
theorem past_within (h : Past H G) (hs : H.within H.next) : G.within H.next := fun id o h1 h2 => hs id o h1 (by rw [← h.get id h1]; exact h2)
theorem aret_past (h : Past H G) (hs : H.within H.next) (hy : y.under H.next) (hk : K y H) : ARet H.next K y G :=
  ⟨G, y, H.next, .refl _ _, Nat.le_refl _, hy, past_within h hs, by rw [past_trunc h]; exact hk⟩
theorem aret_shut (hS : Shut G y G2 y1) (h : Past H G2) (hs : H.within H.next) (hy : y1.under H.next) (hk : K y1 H) : ARet H.next K y G :=
  ⟨G2, y1, H.next, hS, Nat.le_refl _, hy, past_within h hs, by rw [past_trunc h]; exact hk⟩
/-- A slice of one's own: nothing yet, or a row from n0 on. -/
def SlAt (n0 : Nat) (G : AHeap) (e sz : Nat) (v : AV) (xs : List AV) : Prop :=
  (v = .nils ∧ xs = []) ∨ ∃ id gen, v = .wr id gen 0 xs.length sz ∧ n0 ≤ id ∧ G.get id = some (.row e gen (xs.flatMap AV.cells))
theorem slat_nil {e sz : Nat} : SlAt n0 G e sz .nils [] := .inl ⟨rfl, rfl⟩
/-- What a slice's growing leaves alone. -/
structure Beside (n0 : Nat) (v : AV) (G G2 : AHeap) : Prop where
  next : G.next ≤ G2.next
  old : ∀ i, i < n0 → G2.get i = G.get i
  other : ∀ i o, G.get i = some o → (∀ gen off len sz, v ≠ .wr i gen off len sz) → G2.get i = some o
theorem beside_past {n0 : Nat} {v : AV} (h : Beside n0 v G G2) (hn : H.next ≤ n0) (hG : Past H G) : Past H G2 := ⟨Nat.le_trans hG.next h.next, fun i hi => (h.old i (by omega)).trans (hG.get i hi)⟩
theorem slat_len {e sz : Nat} {v : AV} {xs : List AV} (h : SlAt n0 G e sz v xs) : alenL v = some (.int .i64 (xs.length : Int)) := by
  rcases h with ⟨rfl, rfl⟩ | ⟨id, gen, rfl, _⟩ <;> rfl
theorem slat_app {e sz b : Nat} {v : AV} {xs ys : List AV} (h : SlAt n0 G e sz v xs) (hn : n0 ≤ G.next) (hx : ∀ x ∈ xs, x.cells.length = sz) (h1 : (ys.flatMap AV.cells).all AV.one = true) (hb : (xs.length + ys.length) * b ≤ 140737488355328) :
    ∃ v' G', aapp e sz b G v (.imm sz ys) = some (v', hp G' []) ∧ SlAt n0 G' e sz v' (xs ++ ys) ∧ Beside n0 v G G' := by
  have hc : acells G sz (.imm sz ys) = some (ys.length, ys.flatMap AV.cells) := by simp only [acells, if_true]
  rcases h with ⟨rfl, rfl⟩ | ⟨id, gen, rfl, hid, hg⟩
  · rw [aapp_nils, hc]
    simp only [h1, if_true]
    by_cases hy : ys.length = 0
    · rw [if_pos hy]
      obtain rfl := List.length_eq_zero_iff.1 hy
      exact ⟨.nils, G, by rw [hp_nil], .inl ⟨rfl, rfl⟩, ⟨Nat.le_refl _, fun _ _ => rfl, fun _ _ h _ => h⟩⟩
    · rw [if_neg hy, if_pos (by simpa using hb)]
      refine ⟨.wr G.next 0 0 ys.length sz, G.push (.row e 0 (ys.flatMap AV.cells)), by rw [hp_nil], .inr ⟨G.next, 0, by simp, hn, ?_⟩, ⟨Nat.le_succ _, fun i hi => push_get_old _ _ _ (by omega), fun i o h _ => by rw [push_get_old _ _ _ (G.lt h)]; exact h⟩⟩
      rw [push_get_new]
      rfl
  · rw [aapp_wr, hc]
    simp only [h1, if_true, hg]
    rw [if_pos ⟨trivial, trivial, trivial, by rw [flat_length _ _ hx], hb⟩]
    refine ⟨.wr id (gen + 1) 0 (xs.length + ys.length) sz, G.set id (.row e (gen + 1) (xs.flatMap AV.cells ++ ys.flatMap AV.cells)), by rw [hp_nil], .inr ⟨id, gen + 1, by rw [List.length_append], hid, ?_⟩, ⟨Nat.le_refl _, fun i hi => set_get_ne _ _ _ _ (by omega), fun i o h hv => ?_⟩⟩
    · rw [set_got (G.lt hg), List.flatMap_append]
    · have : i ≠ id := fun h2 => hv _ _ _ _ (by rw [h2])
      rw [set_get_ne _ _ _ _ this]
      exact h
/-- More rows. -/
theorem slat_more {e sz : Nat} {v : AV} {xs : List AV} (h : SlAt n0 G e sz v xs) (hg : ∀ i o, G.get i = some o → G2.get i = some o) : SlAt n0 G2 e sz v xs := by
  rcases h with h | ⟨id, gen, h1, h2, h3⟩
  · exact .inl h
  · exact .inr ⟨id, gen, h1, h2, hg _ _ h3⟩
theorem slat_hp {e sz : Nat} {v : AV} {xs : List AV} (h : SlAt n0 G e sz v xs) (l : List AObj) : SlAt n0 (hp G l) e sz v xs := slat_more h (fun i o h => by rw [hp_get_old _ _ _ (G.lt h)]; exact h)
theorem slat_ret {e sz : Nat} {v : AV} {xs : List AV} (h : SlAt H.next G e sz v xs) (hx : ∀ x ∈ xs, x.cells.length = sz) (hG : Past H G) (hs : H.within H.next) (hu : AllC H.next xs) (hk : ∀ k, K (slA k sz xs) H) : ARet H.next K v G := by
  rcases h with ⟨rfl, rfl⟩ | ⟨id, gen, rfl, hid, hg⟩
  · exact aret_past hG hs .nils (hk 0)
  · refine aret_shut (y1 := .imm sz xs) (G2 := G.kill id) (.row _ _ _ _ _ _ e (xs.flatMap AV.cells) xs hg hx rfl ?_) (past_kill hG hid) hs (.imm _ _ hu) ?_
    · rw [List.drop_zero, List.take_of_length_le]
      rw [flat_length _ _ hx]
      exact Nat.le_refl _
    · have := hk 2
      cases xs with
      | nil => exact this
      | cons x xs => exact this
/-- What the slice is to its readers, within something that is answered. -/
theorem slat_shut {e sz : Nat} {v : AV} {xs : List AV} (h : SlAt n0 G e sz v xs) (hx : ∀ x ∈ xs, x.cells.length = sz) : ∃ G2 k, Shut G v G2 (slA k sz xs) ∧ (∀ H : AHeap, H.next ≤ n0 → Past H G → Past H G2) := by
  rcases h with ⟨rfl, rfl⟩ | ⟨id, gen, rfl, hid, hg⟩
  · exact ⟨G, 0, .refl _ _, fun _ _ h => h⟩
  · refine ⟨G.kill id, 2, ?_, fun H hn h => past_kill h (by omega)⟩
    have : slA 2 sz xs = .imm sz xs := by cases xs <;> rfl
    rw [this]
    refine .row _ _ _ _ _ _ e (xs.flatMap AV.cells) xs hg hx rfl ?_
    rw [List.drop_zero, List.take_of_length_le]
    rw [flat_length _ _ hx]
    exact Nat.le_refl _
/-- One's own rows stay, among others. -/
theorem aret_pastall (h : Past H G) (hs : H.within H.next) (hG : G.within G.next) (hy : y.under G.next) (hk : K y G) : ARet H.next K y G :=
  ⟨G, y, G.next, .refl _ _, h.next, hy, hG, by rw [trunc_self]; exact hk⟩
theorem within_hp2 {l : List AObj} (hG : G.within G.next) (hl : ∀ o ∈ l, o.under (G.next + l.length)) : (hp G l).within (hp G l).next := within_hp hl (fun id o h1 h2 => up_obj (Nat.le_add_right _ _) (hG id o h1 h2))
theorem slA_cut (k sz : Nat) (xs : List AV) {i : Nat} (hi : i ≤ xs.length) : ∃ k', asliceSl sz (slA k sz xs) none (some (.int .i64 (i : Int))) = some (slA k' sz (xs.take i)) := by
  rcases slA_cases k sz xs with ⟨h, rfl⟩ | ⟨h, rfl⟩ | h
  · have h0 : i = 0 := by simpa using hi
    subst h0
    exact ⟨0, by rw [h]; rfl⟩
  · have h0 : i = 0 := by simpa using hi
    subst h0
    exact ⟨1, by rw [h]; rfl⟩
  · refine ⟨2, ?_⟩
    have : slA 2 sz (xs.take i) = .imm sz (xs.take i) := by cases xs.take i <;> rfl
    rw [h, this]
    simp only [asliceSl, abound]
    rw [if_pos ⟨trivial, Int.le_refl _, by omega, by omega⟩, Int.toNat_natCast]
    rfl
end
end Go.Proofs.YtmdgjfadbhenjaaGreatDoor.AL
/- Stepping, in short: what a step's simplification is, said once. -/
set_option linter.unusedSimpArgs false
set_option linter.unusedVariables false
set_option maxRecDepth 100000
set_option maxHeartbeats 16000000
namespace Go.Proofs.YtmdgjfadbhenjaaGreatDoor.AL
open Go Go.Proofs
theorem stp {F A B : Prop} (f : F) (b : B) (e : F → A = B := by (intro stpFact; simp (maxSteps := 4000000) (disch := (first | omega | (simp only [set_next, List.length_append, List.length_cons, List.length_nil, List.length_take, List.length_drop, List.length_map, List.length_set, List.length_replicate]; omega) | (simp only [set_next, ne_eq, reduceCtorEq, not_false_eq_true]))) only [stpFact, go_sem, Nat.reduceLeDiff, Nat.reduceAdd, Nat.reduceSub, Nat.reduceMul, Nat.reduceLT, Int.reduceLT, Int.reduceLE, Int.reduceAdd, Int.reduceSub, Int.reduceMul, Int.reduceToNat, Int.reduceNeg, Int.reduceEq, Nat.reducePow, Int.reducePow, Nat.reduceEqDiff, decide_true, decide_false, reduceIte, reduceCtorEq, Int.reduceBEq, Int.reduceBNe, bne_self_eq_false, Int.cast_ofNat_Int, Bool.not_true, Bool.not_false, IntKind.bits, w_nat, w_lit, w_add, w_addl, w_ladd, w_sub, w_subl, w_lsub, w_mul, w_mull, w_lmul, t_div, t_divl, t_mod, t_modl, i_lt, i_ltl, i_llt, i_le, i_lel, i_lle, i_eq, i_eql, i_leq, Nat.zero_le, d_beq, d_bne, d_bytes, byte_at, Int.toNat_natCast, toNat_lit, decide_eq_true, decide_eq_false, if_pos, if_neg, slA_len, slA_idx, slA_cells, flat_slA, one_slA, cells_slA, map_mid, strV_is, hp_get1, hp_get2, hp_get3, hp_set1, hp_set2, hp_set3, hp_old, hp_sold, set_got, set_set, set_next, set_other, bytesL, bytes_all, List.length_map, aapp_nils, aapp_wr, List.flatMap_cons, List.flatMap_nil, Nat.mul_one]; exact rfl)) : A := (e f).mpr b
theorem stp0 {A B : Prop} (b : B) (e : A = B := by (simp (maxSteps := 4000000) (disch := (first | omega | (simp only [set_next, List.length_append, List.length_cons, List.length_nil, List.length_take, List.length_drop, List.length_map, List.length_set, List.length_replicate]; omega) | (simp only [set_next, ne_eq, reduceCtorEq, not_false_eq_true]))) only [go_sem, Nat.reduceLeDiff, Nat.reduceAdd, Nat.reduceSub, Nat.reduceMul, Nat.reduceLT, Int.reduceLT, Int.reduceLE, Int.reduceAdd, Int.reduceSub, Int.reduceMul, Int.reduceToNat, Int.reduceNeg, Int.reduceEq, Nat.reducePow, Int.reducePow, Nat.reduceEqDiff, decide_true, decide_false, reduceIte, reduceCtorEq, Int.reduceBEq, Int.reduceBNe, bne_self_eq_false, Int.cast_ofNat_Int, Bool.not_true, Bool.not_false, IntKind.bits, w_nat, w_lit, w_add, w_addl, w_ladd, w_sub, w_subl, w_lsub, w_mul, w_mull, w_lmul, t_div, t_divl, t_mod, t_modl, i_lt, i_ltl, i_llt, i_le, i_lel, i_lle, i_eq, i_eql, i_leq, Nat.zero_le, d_beq, d_bne, d_bytes, byte_at, Int.toNat_natCast, toNat_lit, decide_eq_true, decide_eq_false, if_pos, if_neg, slA_len, slA_idx, slA_cells, flat_slA, one_slA, cells_slA, map_mid, strV_is, hp_get1, hp_get2, hp_get3, hp_set1, hp_set2, hp_set3, hp_old, hp_sold, set_got, set_set, set_next, set_other, bytesL, bytes_all, List.length_map, aapp_nils, aapp_wr, List.flatMap_cons, List.flatMap_nil, Nat.mul_one]; exact rfl)) : A := e.mpr b
theorem aret_u {H : AHeap} {K : AV → AHeap → Prop} {l : List AObj} {y : AV} (hs : H.within H.next) (hk : K y H) (hy : y.under H.next := by simp only [u_top, u_bool, u_int, u_str, u_nilp, u_nils, u_nilf, u_nilm, u_nili, u_emp, u_byteV, u_ptr, u_wr, u_wc, u_agg, u_tup, u_rd, u_imm, u_func, u_nil, u_cons, u_app, uc_nil, uc_cons, uc_app, u_bytes, uc_bytes, u_ints, uc_ints, cells_bool, cells_int, cells_str, cells_agg, cells_ptr, cells_nils, cells_imm, cells_wr, cells_wc, cells_nilp, cells_nilf, cells_nilm, cells_rd, cells_emp, cells_byteV, cells_func, and_self, and_true, true_and, u_slA, uc_strs, cells_slA, strV_is]) : ARet H.next K y (hp H l) := aret_plain hs hy hk
theorem fgt {a b : List AV} (h : Forget a b := by (simp only [blurR_nil, blurR_some, blurR_none, blurC_region, blurC_regionN, blurC_fregion, blurT_nil, blurT_cons, blurC_seq, blurC_both, blurC_cond, blurC_block, blurC_loop, blurC_skip, blurC_exit, blurC_ret, tellS_nil, tellS_cons, List.set_cons_zero, List.set_cons_succ, tops_zero, tops_succ]; repeat first | exact forget_nil | apply forget_keep | apply forget_top)) : Forget a b := h
end Go.Proofs.YtmdgjfadbhenjaaGreatDoor.AL

