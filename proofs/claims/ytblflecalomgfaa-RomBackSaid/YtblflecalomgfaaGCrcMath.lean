/- The mathematics of the sum of 32 bits (no program in sight): a step, eight steps, the sum of bytes; eight steps by a table; bursts are found. -/
namespace Go.Proofs.Ytblflecalomgfaa.G
def poly : BitVec 32 := 0xedb88320#32
def cstep (c : BitVec 32) : BitVec 32 := (c >>> 1) ^^^ (if c.getLsbD 0 then poly else 0#32)
def ceight (c : BitVec 32) : BitVec 32 := cstep (cstep (cstep (cstep (cstep (cstep (cstep (cstep c)))))))
def cbyte (b : UInt8) : BitVec 32 := BitVec.ofNat 32 b.toNat
def crun (c : BitVec 32) (l : List UInt8) : BitVec 32 := l.foldl (fun c b => ceight (c ^^^ cbyte b)) c
def call : BitVec 32 := 0xffffffff#32
theorem crun_nil (c : BitVec 32) : crun c [] = c := rfl
theorem crun_cons (c : BitVec 32) (b : UInt8) (l : List UInt8) : crun c (b :: l) = crun (ceight (c ^^^ cbyte b)) l := rfl
theorem crun_append (c : BitVec 32) (l m : List UInt8) : crun c (l ++ m) = crun (crun c l) m := by simp [crun, List.foldl_append]
theorem cstep_xor (a b : BitVec 32) : cstep (a ^^^ b) = cstep a ^^^ cstep b := by
  unfold cstep
  rw [BitVec.getLsbD_xor, BitVec.ushiftRight_xor_distrib]
  generalize a >>> 1 = x
  generalize b >>> 1 = y
  cases a.getLsbD 0 <;> cases b.getLsbD 0
  · simp
  · simp [BitVec.xor_assoc]
  · simp only [Bool.xor_false, if_true, Bool.false_eq_true, if_false, BitVec.xor_zero]
    rw [BitVec.xor_assoc, BitVec.xor_comm y, ← BitVec.xor_assoc]
  · simp only [Bool.xor_self, if_true, Bool.false_eq_true, if_false, BitVec.xor_zero]
    rw [BitVec.xor_comm y, ← BitVec.xor_assoc, BitVec.xor_assoc x, BitVec.xor_self, BitVec.xor_zero]
theorem ceight_xor (a b : BitVec 32) : ceight (a ^^^ b) = ceight a ^^^ ceight b := by simp only [ceight, cstep_xor]
theorem cstep_zero : cstep 0#32 = 0#32 := by decide
theorem cstep_ne (d : BitVec 32) (h : cstep d = 0#32) : d = 0#32 := by
  unfold cstep at h
  cases hl : d.getLsbD 0
  · rw [hl] at h
    simp only [Bool.false_eq_true, if_false, BitVec.xor_zero] at h
    apply BitVec.eq_of_getLsbD_eq
    intro i hi
    cases i with
    | zero => rw [hl]; simp
    | succ i =>
      have := congrArg (fun v => v.getLsbD i) h
      simp only [BitVec.getLsbD_ushiftRight, BitVec.getLsbD_zero] at this
      rw [Nat.add_comm, this]; simp
  · rw [hl] at h
    have := congrArg (fun v => v.getLsbD 31) h
    simp [poly] at this
theorem ceight_ne (d : BitVec 32) (h : ceight d = 0#32) : d = 0#32 := by
  unfold ceight at h
  exact cstep_ne _ (cstep_ne _ (cstep_ne _ (cstep_ne _ (cstep_ne _ (cstep_ne _ (cstep_ne _ (cstep_ne _ h)))))))
theorem cstep_even (x : BitVec 32) (h : x.getLsbD 0 = false) : cstep x = x >>> 1 := by
  unfold cstep
  rw [h]
  simp
theorem cstep_shl (y : BitVec 32) (k : Nat) (hk : k < 8) (hy : ∀ i, 24 ≤ i → y.getLsbD i = false) : cstep (y <<< (k + 1)) = y <<< k := by
  rw [cstep_even _ (by simp)]
  apply BitVec.eq_of_getLsbD_eq
  intro i hi
  simp only [BitVec.getLsbD_ushiftRight, BitVec.getLsbD_shiftLeft]
  by_cases h1 : i < k
  · simp [h1]; omega
  · have h2 : 1 + i - (k + 1) = i - k := by omega
    rw [h2]
    by_cases h3 : 1 + i < 32
    · simp [h1, hi, h3]; omega
    · have : y.getLsbD (i - k) = false := hy _ (by omega)
      simp [this]
theorem ceight_split (c : BitVec 32) : ceight c = (c >>> 8) ^^^ ceight (c &&& 0xff#32) := by
  have hc : c = ((c >>> 8) <<< 8) ^^^ (c &&& 0xff#32) := by
    apply BitVec.eq_of_getLsbD_eq
    intro i hi
    simp only [BitVec.getLsbD_xor, BitVec.getLsbD_shiftLeft, BitVec.getLsbD_ushiftRight, BitVec.getLsbD_and]
    have hff : (0xff#32 : BitVec 32).getLsbD i = decide (i < 8) := by
      have : ∀ i : Fin 32, (0xff#32 : BitVec 32).getLsbD i = decide (i.val < 8) := by decide
      exact this ⟨i, hi⟩
    rw [hff]
    by_cases h : i < 8
    · simp [h]
    · have : 8 + (i - 8) = i := by omega
      simp [h, hi, this]
  have hy : ∀ i, 24 ≤ i → (c >>> 8).getLsbD i = false := fun i hi => by
    rw [BitVec.getLsbD_ushiftRight]; exact BitVec.getLsbD_of_ge _ _ (by omega)
  have h8 : ceight ((c >>> 8) <<< 8) = c >>> 8 := by
    unfold ceight
    rw [cstep_shl _ 7 (by omega) hy, cstep_shl _ 6 (by omega) hy, cstep_shl _ 5 (by omega) hy, cstep_shl _ 4 (by omega) hy, cstep_shl _ 3 (by omega) hy, cstep_shl _ 2 (by omega) hy, cstep_shl _ 1 (by omega) hy, cstep_shl _ 0 (by omega) hy]
    simp
  conv => lhs; rw [hc]
  rw [ceight_xor, h8]
theorem crun_ne (l : List UInt8) : ∀ (a b : BitVec 32), a ≠ b → crun a l ≠ crun b l := by
  induction l with
  | nil => exact fun a b h => h
  | cons x l ih =>
    intro a b h
    rw [crun_cons, crun_cons]
    refine ih _ _ (fun e => h ?_)
    have h0 : ceight (a ^^^ b) = 0#32 := by
      have e2 : ceight (a ^^^ cbyte x) ^^^ ceight (b ^^^ cbyte x) = 0#32 := by rw [e, BitVec.xor_self]
      rw [← ceight_xor] at e2
      have : (a ^^^ cbyte x) ^^^ (b ^^^ cbyte x) = a ^^^ b := by
        rw [BitVec.xor_comm b, ← BitVec.xor_assoc, BitVec.xor_assoc a, BitVec.xor_self, BitVec.xor_zero]
      rwa [this] at e2
    have h1 := ceight_ne _ h0
    have h2 : a ^^^ b ^^^ b = b := by rw [h1]; simp
    rw [BitVec.xor_assoc, BitVec.xor_self, BitVec.xor_zero] at h2
    exact h2
/-- A run from one state with the bytes turned by 'd': by as much as the run of 'd' from nothing. -/
theorem crun_xor (l : List UInt8) : ∀ (m : List UInt8) (a b : BitVec 32), l.length = m.length → crun (a ^^^ b) (List.zipWith (· ^^^ ·) l m) = crun a l ^^^ crun b m := by
  induction l with
  | nil => intro m a b h; cases m with | nil => rfl | cons => simp at h
  | cons x l ih =>
    intro m a b h
    cases m with
    | nil => simp at h
    | cons y m =>
      rw [List.zipWith_cons_cons, crun_cons, crun_cons, crun_cons, ← ih m _ _ (by simpa using h), ← ceight_xor]
      congr 2
      have : cbyte (x ^^^ y) = cbyte x ^^^ cbyte y := by simp [cbyte, UInt8.toNat_xor, BitVec.ofNat_xor]
      rw [this, BitVec.xor_assoc, BitVec.xor_assoc]
      congr 1
      rw [← BitVec.xor_assoc, ← BitVec.xor_assoc, BitVec.xor_comm b]
end Go.Proofs.Ytblflecalomgfaa.G
