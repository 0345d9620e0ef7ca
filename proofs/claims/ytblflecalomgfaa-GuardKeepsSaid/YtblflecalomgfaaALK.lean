/- Small facts for going through told code over the seat's program. -/
import Derived.Test.YtblflecalomgfaaAL16
import Derived.Test.YtblflecalomgfaaProg
import Derived.WalkKit
set_option linter.unusedSimpArgs false
namespace Go.Proofs.Ytblflecalomgfaa.AL
open Go Go.Proofs
theorem mo : Try.prog.follows .mixedOrders = true := by kernel_rfl
theorem mono : Mono (ACalls Try.prog) := calls_mono
theorem wi64 {n : Int} (h1 : -9223372036854775808 ≤ n) (h2 : n < 9223372036854775808) : IntKind.wrap .i64 n = n := by rw [IntKind.wrap_i64]; omega
theorem wnext {i n : Nat} (h : i < n) (hn : n ≤ 9223372036854775807) : IntKind.wrap .i64 ((i : Int) + 1) = ((i + 1 : Nat) : Int) := by rw [wi64 (by omega) (by omega)]; omega
theorem wu32 {n : Int} (h1 : 0 ≤ n) (h2 : n < 4294967296) : IntKind.wrap .u32 n = n := by rw [IntKind.wrap_u32]; omega
theorem wu8 {n : Int} (h1 : 0 ≤ n) (h2 : n < 256) : IntKind.wrap .u8 n = n := by rw [IntKind.wrap_u8]; omega
theorem shr_u8 (a b : Int) (h : 0 ≤ b) (h2 : b ≤ 8) : ashift false .u8 a b = some (.int .u8 (a / (2 ^ b.toNat))) := by
  unfold ashift
  rw [if_neg (by omega), show min b.toNat (IntKind.bits .u8) = b.toNat by simp only [IntKind.bits]; omega, Int.fdiv_eq_ediv_of_nonneg _ (by exact Int.le_of_lt (Int.pow_pos (by decide)))]
  rfl
theorem shl_u8 (a b : Int) (h : 0 ≤ b) (h2 : b ≤ 8) : ashift true .u8 a b = some (.int .u8 (IntKind.wrap .u8 (a * 2 ^ b.toNat))) := by
  unfold ashift
  rw [if_neg (by omega), show min b.toNat (IntKind.bits .u8) = b.toNat by simp only [IntKind.bits]; omega]
  rfl
theorem shr_u16 (a b : Int) (h : 0 ≤ b) (h2 : b ≤ 16) : ashift false .u16 a b = some (.int .u16 (a / (2 ^ b.toNat))) := by
  unfold ashift
  rw [if_neg (by omega), show min b.toNat (IntKind.bits .u16) = b.toNat by simp only [IntKind.bits]; omega, Int.fdiv_eq_ediv_of_nonneg _ (by exact Int.le_of_lt (Int.pow_pos (by decide)))]
  rfl
theorem shl_u16 (a b : Int) (h : 0 ≤ b) (h2 : b ≤ 16) : ashift true .u16 a b = some (.int .u16 (IntKind.wrap .u16 (a * 2 ^ b.toNat))) := by
  unfold ashift
  rw [if_neg (by omega), show min b.toNat (IntKind.bits .u16) = b.toNat by simp only [IntKind.bits]; omega]
  rfl
theorem shr_u32 (a b : Int) (h : 0 ≤ b) (h2 : b ≤ 32) : ashift false .u32 a b = some (.int .u32 (a / (2 ^ b.toNat))) := by
  unfold ashift
  rw [if_neg (by omega), show min b.toNat (IntKind.bits .u32) = b.toNat by simp only [IntKind.bits]; omega, Int.fdiv_eq_ediv_of_nonneg _ (by exact Int.le_of_lt (Int.pow_pos (by decide)))]
  rfl
theorem shl_u32 (a b : Int) (h : 0 ≤ b) (h2 : b ≤ 32) : ashift true .u32 a b = some (.int .u32 (IntKind.wrap .u32 (a * 2 ^ b.toNat))) := by
  unfold ashift
  rw [if_neg (by omega), show min b.toNat (IntKind.bits .u32) = b.toNat by simp only [IntKind.bits]; omega]
  rfl
theorem shr_i64 (a b : Int) (h : 0 ≤ b) (h2 : b ≤ 64) : ashift false .i64 a b = some (.int .i64 (a / (2 ^ b.toNat))) := by
  unfold ashift
  rw [if_neg (by omega), show min b.toNat (IntKind.bits .i64) = b.toNat by simp only [IntKind.bits]; omega, Int.fdiv_eq_ediv_of_nonneg _ (by exact Int.le_of_lt (Int.pow_pos (by decide)))]
  rfl
theorem shl_i64 (a b : Int) (h : 0 ≤ b) (h2 : b ≤ 64) : ashift true .i64 a b = some (.int .i64 (IntKind.wrap .i64 (a * 2 ^ b.toNat))) := by
  unfold ashift
  rw [if_neg (by omega), show min b.toNat (IntKind.bits .i64) = b.toNat by simp only [IntKind.bits]; omega]
  rfl
theorem shr_u64 (a b : Int) (h : 0 ≤ b) (h2 : b ≤ 64) : ashift false .u64 a b = some (.int .u64 (a / (2 ^ b.toNat))) := by
  unfold ashift
  rw [if_neg (by omega), show min b.toNat (IntKind.bits .u64) = b.toNat by simp only [IntKind.bits]; omega, Int.fdiv_eq_ediv_of_nonneg _ (by exact Int.le_of_lt (Int.pow_pos (by decide)))]
  rfl
theorem shl_u64 (a b : Int) (h : 0 ≤ b) (h2 : b ≤ 64) : ashift true .u64 a b = some (.int .u64 (IntKind.wrap .u64 (a * 2 ^ b.toNat))) := by
  unfold ashift
  rw [if_neg (by omega), show min b.toNat (IntKind.bits .u64) = b.toNat by simp only [IntKind.bits]; omega]
  rfl
theorem alenL_nils : alenL .nils = some (.int .i64 0) := rfl
theorem alenL_emp : alenL .emp = some (.int .i64 0) := rfl
theorem alenL_imm (sz : Nat) (xs : List AV) : alenL (.imm sz xs) = some (.int .i64 xs.length) := rfl
theorem alenL_wr (id gen o n sz : Nat) : alenL (.wr id gen o n sz) = some (.int .i64 n) := rfl
theorem aidxSl_wr (sz id gen o n s : Nat) (k : IntKind) (i : Int) : aidxSl sz (.wr id gen o n s) (.int k i) = if s = sz ∧ 0 ≤ i ∧ i < n then some (.ptr id gen (o + i.toNat * sz)) else none := rfl
theorem aidxSl_imm (sz s : Nat) (xs : List AV) (k : IntKind) (i : Int) : aidxSl sz (.imm s xs) (.int k i) = if s = sz ∧ 0 ≤ i then (xs[i.toNat]?).map (fun x => .rd x.cells) else none := rfl
theorem acells_nils (H : AHeap) (sz : Nat) : acells H sz .nils = some (0, []) := rfl
theorem acells_emp (H : AHeap) (sz : Nat) : acells H sz .emp = some (0, []) := rfl
theorem acells_imm (H : AHeap) (sz s : Nat) (xs : List AV) : acells H sz (.imm s xs) = if s = sz then some (xs.length, xs.flatMap AV.cells) else none := rfl
theorem acells_wr (H : AHeap) (sz id gen off n s : Nat) : acells H sz (.wr id gen off n s) = if s = sz then (match H.get id with
    | some (.row _ g cs) => if g = gen ∧ off + n * s ≤ cs.length then some (n, (cs.drop off).take (n * s)) else none
    | _ => none) else none := rfl
theorem acells_str (H : AHeap) (sz : Nat) (s : ByteArray) : acells H sz (.str s) = if sz = 1 then some (s.size, s.data.toList.map fun b => .int .u8 (b.toNat : Int)) else none := rfl
theorem aapp_nils (e : TypeId) (sz bytes : Nat) (H : AHeap) (x : AV) : aapp e sz bytes H .nils x = (match acells H sz x with
    | some (n, ys) => if ys.all AV.one = true then (if n = 0 then some (.nils, H) else if n * bytes ≤ 140737488355328 then some (.wr H.next 0 0 n sz, H.push (.row e 0 ys)) else none) else none
    | none => none) := rfl
theorem aapp_wr (e : TypeId) (sz bytes : Nat) (H : AHeap) (id gen len s : Nat) (x : AV) : aapp e sz bytes H (.wr id gen 0 len s) x = (match acells H sz x with
    | some (n, ys) => if ys.all AV.one = true then (match H.get id with
      | some (.row e' g cs) => if s = sz ∧ e' = e ∧ g = gen ∧ cs.length = len * sz ∧ (len + n) * bytes ≤ 140737488355328 then some (.wr id (gen + 1) 0 (len + n) sz, H.set id (.row e (gen + 1) (cs ++ ys))) else none
      | _ => none) else none
    | none => none) := rfl
theorem flat_bool (b : Bool) : AV.flat (AV.bool b) = true := rfl
theorem one_bool (b : Bool) : AV.one (AV.bool b) = true := rfl
theorem cells_bool (b : Bool) : AV.cells (AV.bool b) = [AV.bool b] := rfl
theorem flat_int (k : IntKind) (n : Int) : AV.flat (AV.int k n) = true := rfl
theorem one_int (k : IntKind) (n : Int) : AV.one (AV.int k n) = true := rfl
theorem cells_int (k : IntKind) (n : Int) : AV.cells (AV.int k n) = [AV.int k n] := rfl
theorem flat_str (s : ByteArray) : AV.flat (AV.str s) = true := rfl
theorem one_str (s : ByteArray) : AV.one (AV.str s) = true := rfl
theorem cells_str (s : ByteArray) : AV.cells (AV.str s) = [AV.str s] := rfl
theorem flat_nilp  : AV.flat (AV.nilp) = true := rfl
theorem one_nilp  : AV.one (AV.nilp) = true := rfl
theorem cells_nilp  : AV.cells (AV.nilp) = [AV.nilp] := rfl
theorem flat_ptr (i g o : Nat) : AV.flat (AV.ptr i g o) = true := rfl
theorem one_ptr (i g o : Nat) : AV.one (AV.ptr i g o) = true := rfl
theorem cells_ptr (i g o : Nat) : AV.cells (AV.ptr i g o) = [AV.ptr i g o] := rfl
theorem flat_nils  : AV.flat (AV.nils) = true := rfl
theorem one_nils  : AV.one (AV.nils) = true := rfl
theorem cells_nils  : AV.cells (AV.nils) = [AV.nils] := rfl
theorem flat_imm (z : Nat) (xs : List AV) : AV.flat (AV.imm z xs) = true := rfl
theorem one_imm (z : Nat) (xs : List AV) : AV.one (AV.imm z xs) = true := rfl
theorem cells_imm (z : Nat) (xs : List AV) : AV.cells (AV.imm z xs) = [AV.imm z xs] := rfl
theorem flat_wr (i g o n z : Nat) : AV.flat (AV.wr i g o n z) = true := rfl
theorem one_wr (i g o n z : Nat) : AV.one (AV.wr i g o n z) = true := rfl
theorem cells_wr (i g o n z : Nat) : AV.cells (AV.wr i g o n z) = [AV.wr i g o n z] := rfl
theorem flat_func (f : Fn) (a b : List AV) : AV.flat (AV.func f a b) = true := rfl
theorem one_func (f : Fn) (a b : List AV) : AV.one (AV.func f a b) = true := rfl
theorem cells_func (f : Fn) (a b : List AV) : AV.cells (AV.func f a b) = [AV.func f a b] := rfl
theorem flat_nilf  : AV.flat (AV.nilf) = true := rfl
theorem one_nilf  : AV.one (AV.nilf) = true := rfl
theorem cells_nilf  : AV.cells (AV.nilf) = [AV.nilf] := rfl
theorem flat_map (i : Nat) : AV.flat (AV.map i) = true := rfl
theorem one_map (i : Nat) : AV.one (AV.map i) = true := rfl
theorem cells_map (i : Nat) : AV.cells (AV.map i) = [AV.map i] := rfl
theorem flat_nilm  : AV.flat (AV.nilm) = true := rfl
theorem one_nilm  : AV.one (AV.nilm) = true := rfl
theorem cells_nilm  : AV.cells (AV.nilm) = [AV.nilm] := rfl
theorem flat_iface (t : TypeId) (v : AV) : AV.flat (AV.iface t v) = true := rfl
theorem one_iface (t : TypeId) (v : AV) : AV.one (AV.iface t v) = true := rfl
theorem cells_iface (t : TypeId) (v : AV) : AV.cells (AV.iface t v) = [AV.iface t v] := rfl
theorem flat_nili  : AV.flat (AV.nili) = true := rfl
theorem one_nili  : AV.one (AV.nili) = true := rfl
theorem cells_nili  : AV.cells (AV.nili) = [AV.nili] := rfl
theorem flat_rd (ys : List AV) : AV.flat (AV.rd ys) = true := rfl
theorem one_rd (ys : List AV) : AV.one (AV.rd ys) = true := rfl
theorem cells_rd (ys : List AV) : AV.cells (AV.rd ys) = [AV.rd ys] := rfl
theorem flat_emp  : AV.flat (AV.emp) = true := rfl
theorem one_emp  : AV.one (AV.emp) = true := rfl
theorem cells_emp  : AV.cells (AV.emp) = [AV.emp] := rfl
theorem flat_byteV (b : UInt8) : AV.flat (byteV b) = true := rfl
theorem one_byteV (b : UInt8) : AV.one (byteV b) = true := rfl
theorem cells_byteV (b : UInt8) : AV.cells (byteV b) = [byteV b] := rfl
theorem flat_agg (cs : List AV) : AV.flat (AV.agg cs) = true := rfl
theorem cells_agg (cs : List AV) : AV.cells (AV.agg cs) = cs := rfl
theorem one_agg (cs : List AV) : AV.one (AV.agg cs) = false := rfl
/-! ### texts by their bytes -/
theorem B_size (l : List UInt8) : (B l).size = l.length := by simp [B, ByteArray.size]
theorem B_list (l : List UInt8) : (B l).data.toList = l := rfl
theorem B_app (l m : List UInt8) : B l ++ B m = B (l ++ m) := by
  apply ByteArray.ext
  simp [B, ByteArray.data_append]
theorem B_of (s : ByteArray) : B s.data.toList = s := by
  apply ByteArray.ext
  simp [B]
theorem B_ext (l : List UInt8) (a b : Nat) : (B l).extract a b = B ((l.take b).drop a) := by
  apply ByteArray.ext
  simp only [ByteArray.data_extract]
  apply Array.ext'
  simp [B, List.extract_eq_take_drop]
  rw [List.drop_take]
theorem B_toList (l : List UInt8) : (B l).toList = l := by
  rw [ByteArray.toList_eq]
  rfl
theorem B_inj {l m : List UInt8} (h : B l = B m) : l = m := by
  have := congrArg (fun s : ByteArray => s.data.toList) h
  simpa [B_list] using this
theorem nat_lt {i n : Nat} : decide ((i : Int) < (n : Int)) = decide (i < n) := by simp
theorem bytesV_get (l : List UInt8) (i : Nat) (h : i < l.length) : (l.map byteV)[i]? = some (.int .u8 (l[i].toNat : Int)) := by
  rw [List.getElem?_map, List.getElem?_eq_getElem h]
  rfl
theorem byte_get (l : List UInt8) (i : Nat) (h : i < l.length) : l[i]? = some l[i] := List.getElem?_eq_getElem h
/-- The lowest eight bits. -/
def b8 (n : Int) : UInt8 := UInt8.ofNat (n % 256).toNat
theorem b8_num (n : Int) : ((b8 n).toNat : Int) = n % 256 := by
  unfold b8
  rw [UInt8.toNat_ofNat']
  omega
theorem byte_wrap (n : Int) : AV.int .u8 (IntKind.wrap .u8 n) = byteV (b8 n) := by
  rw [byteV, b8_num, IntKind.wrap_u8]
theorem bytes_flat (l : List UInt8) : (l.map byteV).flatMap AV.cells = l.map byteV := map_one byteV cells_byteV l
theorem bytes_all (l : List UInt8) : (l.map byteV).all AV.one = true := by simp [one_byteV]
theorem abyte_byteV (b : UInt8) : abyte (byteV b) = some b := by
  simp [abyte, byteV]
theorem bytes_mapM : ∀ (l : List UInt8), (l.map byteV).mapM abyte = some l
  | [] => rfl
  | b :: l => by
    rw [List.map_cons, List.mapM_cons, abyte_byteV, bytes_mapM l]
    rfl
theorem b2s_imm (H : AHeap) (l : List UInt8) : ab2s H (.imm 1 (l.map byteV)) = some (.str (B l)) := by
  simp only [ab2s, aelems, Option.bind_some, bytes_mapM, Option.map_some]
  rfl
theorem b2s_nils (H : AHeap) : ab2s H .nils = some (.str (B [])) := rfl
theorem b2s_wr (H : AHeap) (l : List AObj) (e : TypeId) (i gen : Nat) (bs : List UInt8) (h : l[i]? = some (.row e gen (bs.map byteV))) : ab2s (hp H l) (.wr (H.next + i) gen 0 bs.length 1) = some (.str (B bs)) := by
  have : aelems (hp H l) (.wr (H.next + i) gen 0 bs.length 1) = some (bs.map byteV) := by
    simp only [aelems, hp_get, h]
    rw [if_pos ⟨trivial, by simp⟩, List.drop_zero, List.take_of_length_le (by simp)]
  simp only [ab2s, this, Option.bind_some, bytes_mapM, Option.map_some]
  rfl
theorem b2s_slv {H : AHeap} {e : TypeId} {m k : Nat} {bs : List UInt8} (h : bs.length = k * m) : ab2s (hp H (slh e k (bs.map byteV))) (slv (H.next + 0) m 1 k) = some (.str (B bs)) := by
  cases k with
  | zero =>
    have hz : bs = [] := List.length_eq_zero_iff.1 (by rw [h]; simp)
    subst hz
    rfl
  | succ k =>
    simp only [slv, slh, ← h]
    exact b2s_wr H _ e 0 k bs rfl
theorem ints_flat (k : IntKind) (l : List Int) : (l.map (AV.int k)).flatMap AV.cells = l.map (AV.int k) := map_one _ (cells_int k) l
/-! ### numbers of four bytes -/
def big (l : List UInt8) : Nat := l.foldl (fun n b => n * 256 + b.toNat) 0
theorem big_snoc (l : List UInt8) (b : UInt8) : big (l ++ [b]) = big l * 256 + b.toNat := by simp [big, List.foldl_append]
theorem big_lt : ∀ (n : Nat) (l : List UInt8), l.length = n → big l < 256 ^ n := by
  intro n
  induction n with
  | zero => intro l h; obtain rfl := List.length_eq_zero_iff.1 h; decide
  | succ n ih =>
    intro l h
    have hne : l ≠ [] := by intro e; subst e; simp at h
    rw [← List.dropLast_concat_getLast hne, big_snoc]
    have h1 := ih l.dropLast (by simp [h])
    have h2 := (l.getLast hne).toNat_lt
    rw [Nat.pow_succ]
    omega
theorem or_byte (n : Nat) (b : UInt8) (hn : n < 36028797018963968) : bits .or .i64 ((n : Int) * 256) (b.toNat : Int) = ((n * 256 + b.toNat : Nat) : Int) := by
  have h2 := b.toNat_lt
  rw [bits_join .i64 63 (by decide) (fun n h0 h1 => by rw [IntKind.wrap_i64]; omega) 8 ((n : Int) * 256) (b.toNat : Int) (by omega) (by omega) (by omega) (by omega) (by omega) (by omega)]
  omega
theorem xor_u8 (a b : UInt8) : bits .xor .u8 (a.toNat : Int) (b.toNat : Int) = ((a ^^^ b).toNat : Int) := by
  have h : bits .xor .u8 (a.toNat : Int) (b.toNat : Int) = IntKind.u8.wrap ((BitVec.ofInt 8 (a.toNat : Int) ^^^ BitVec.ofInt 8 (b.toNat : Int)).toNat : Int) := rfl
  rw [h, BitVec.ofInt_natCast, BitVec.ofInt_natCast, IntKind.wrap_u8]
  have h1 : (BitVec.ofNat 8 a.toNat ^^^ BitVec.ofNat 8 b.toNat).toNat = (a ^^^ b).toNat := by
    simp [UInt8.toNat_xor, BitVec.toNat_xor]
  rw [h1]
  have := (a ^^^ b).toNat_lt
  omega
/-- One cell of a row of bytes, written. -/
theorem bytes_put (l : List UInt8) (k : Nat) (b : UInt8) (h : k < l.length) : (l.map byteV).take k ++ [AV.int .u8 (b.toNat : Int)] ++ (l.map byteV).drop (k + 1) = (l.set k b).map byteV := by
  rw [List.map_set, List.set_eq_take_append_cons_drop, if_pos (by simpa using h), List.append_assoc]
  rfl
end Go.Proofs.Ytblflecalomgfaa.AL
