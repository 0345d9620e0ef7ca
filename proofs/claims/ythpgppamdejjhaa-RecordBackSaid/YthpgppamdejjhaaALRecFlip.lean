/- One changed byte is found (no program in sight). -/
import Derived.Test.YthpgppamdejjhaaALRecMath
set_option linter.unusedSimpArgs false
set_option linter.unusedVariables false
namespace Go.Proofs.Ythpgppamdejjhaa.AL
open Go Go.Proofs Go.Proofs.Ythpgppamdejjhaa.G
theorem cbyte_inj {a b : UInt8} (h : cbyte a = cbyte b) : a = b := by
  have h1 := congrArg BitVec.toNat h
  simp only [cbyte, BitVec.toNat_ofNat] at h1
  have ha := a.toNat_lt
  have hb := b.toNat_lt
  apply UInt8.toNat_inj.1
  omega
theorem crun_set : ∀ (l : List UInt8) (c : BitVec 32) (k : Nat) (v : UInt8) (hk : k < l.length), v ≠ l[k] → crun c (l.set k v) ≠ crun c l
  | [], _, _, _, hk, _ => by simp at hk
  | b :: l, c, 0, v, hk, hv => by
    rw [List.set_cons_zero, crun_cons, crun_cons]
    apply crun_ne
    intro h
    have h2 : ceight (cbyte v ^^^ cbyte b) = 0#32 := by
      have h3 : ceight (c ^^^ cbyte v) ^^^ ceight (c ^^^ cbyte b) = 0#32 := by rw [h]; simp
      rw [← ceight_xor] at h3
      rw [show cbyte v ^^^ cbyte b = c ^^^ cbyte v ^^^ (c ^^^ cbyte b) by ext i; simp; cases c[i] <;> simp]
      exact h3
    have h4 := ceight_ne _ h2
    have h5 : cbyte v = cbyte b := by
      have := congrArg (fun x => x ^^^ cbyte b) h4
      simpa [BitVec.xor_assoc] using this
    exact hv (by simpa using cbyte_inj h5)
  | b :: l, c, k + 1, v, hk, hv => by
    rw [List.set_cons_succ, crun_cons, crun_cons]
    exact crun_set l _ k v (by simpa using hk) (by simpa using hv)
theorem crcOf_set (c : BitVec 32) (l : List UInt8) (k : Nat) (v : UInt8) (hk : k < l.length) (hv : v ≠ l[k]) : crcOf c (l.set k v) ≠ crcOf c l := by
  intro h
  unfold crcOf xr at h
  have h1 : crun c (l.set k v) ^^^ call = crun c l ^^^ call := BitVec.eq_of_toNat_eq (by omega)
  have h2 : crun c (l.set k v) = crun c l := by
    have := congrArg (fun x => x ^^^ call) h1
    simpa [BitVec.xor_assoc] using this
  exact crun_set l c k v hk hv h2
theorem big_set {l : List UInt8} (h4 : l.length = 4) (k : Nat) (v : UInt8) (hk : k < l.length) (hv : v ≠ l[k]) : big (l.set k v) ≠ big l := by
  have hn : v.toNat ≠ l[k].toNat := fun e => hv (UInt8.toNat_inj.1 e)
  match l, h4 with
  | [a, b, c, d], _ =>
    have ha := a.toNat_lt
    have hb := b.toNat_lt
    have hc := c.toNat_lt
    have hd := d.toNat_lt
    have hvv := v.toNat_lt
    match k, hk with
    | 0, _ => simp [big] at hn ⊢; omega
    | 1, _ => simp [big] at hn ⊢; omega
    | 2, _ => simp [big] at hn ⊢; omega
    | 3, _ => simp [big] at hn ⊢; omega
/-- A sector whose sum does not hold. -/
theorem recL_bad (x y z d : List UInt8) (hx : x.length = 4) (hy : y.length = 4) (hz : z.length = 4) (hd : big y = d.length) (h5 : d.length ≤ 496) (hc : ¬ crcOf call (x ++ y ++ d) = (big z : Int)) :
    recL (penv ++ (x ++ y ++ z ++ d)) = (0, [], 9) := by
  match x, hx, y, hy, z, hz with
  | [a0, a1, a2, a3], _, [b0, b1, b2, b3], _, [c0, c1, c2, c3], _ =>
    have e4 : (List.take 4 (List.drop 4 (penv ++ ([a0, a1, a2, a3] ++ [b0, b1, b2, b3] ++ [c0, c1, c2, c3] ++ d)))) = [a0, a1, a2, a3] := rfl
    have e8 : (List.take 4 (List.drop 8 (penv ++ ([a0, a1, a2, a3] ++ [b0, b1, b2, b3] ++ [c0, c1, c2, c3] ++ d)))) = [b0, b1, b2, b3] := rfl
    have e12 : (List.take 4 (List.drop 12 (penv ++ ([a0, a1, a2, a3] ++ [b0, b1, b2, b3] ++ [c0, c1, c2, c3] ++ d)))) = [c0, c1, c2, c3] := rfl
    have e0 : (List.take 4 (penv ++ ([a0, a1, a2, a3] ++ [b0, b1, b2, b3] ++ [c0, c1, c2, c3] ++ d))) = penv := rfl
    have e48 : (List.take 8 (List.drop 4 (penv ++ ([a0, a1, a2, a3] ++ [b0, b1, b2, b3] ++ [c0, c1, c2, c3] ++ d)))) = [a0, a1, a2, a3] ++ [b0, b1, b2, b3] := rfl
    have e16 : (List.drop 16 (penv ++ ([a0, a1, a2, a3] ++ [b0, b1, b2, b3] ++ [c0, c1, c2, c3] ++ d))) = d := rfl
    have hl : (penv ++ ([a0, a1, a2, a3] ++ [b0, b1, b2, b3] ++ [c0, c1, c2, c3] ++ d)).length = 16 + d.length := by simp [penv]; omega
    unfold recL
    rw [e0, e8, e12, e48, e16, hl, hd, List.take_of_length_le (Nat.le_refl _), if_neg (by omega), if_neg (by simp), if_neg (by omega), if_neg (by omega), if_pos hc]
theorem recL_flip (n : Int) (d : List UInt8) (h0 : 0 ≤ n) (h1 : n < 4294967296) (hd : d.length ≤ 496) (k : Nat) (v : UInt8) (hk : k < (penv ++ (bodyL n d).1).length) (hv : v ≠ (penv ++ (bodyL n d).1)[k]) (h8 : ¬ (8 ≤ k ∧ k < 12)) :
    ∃ e : Int, e ≠ 0 ∧ recL ((penv ++ (bodyL n d).1).set k v) = (0, [], e) := by
  have hc := crcOf_range call (four n ++ four (d.length : Int) ++ d)
  have hz := big_four hc.1 hc.2
  have hb := body_ok h0 h1 hd
  rw [hb] at hk
  simp only [hb] at hv ⊢
  generalize hx : four n = x at *
  generalize hy : four (d.length : Int) = y at *
  generalize hzz : four (crcOf call (x ++ y ++ d)) = z at *
  have lx : x.length = 4 := by rw [← hx]; rfl
  have ly : y.length = 4 := by rw [← hy]; rfl
  have lz : z.length = 4 := by rw [← hzz]; rfl
  have hyb : big y = d.length := by rw [← hy]; exact big_four_nat (by omega)
  have lp : penv.length = 4 := rfl
  by_cases k4 : k < 4
  · refine ⟨6, by decide, recL_unmarked _ (by simp [lp, lx, ly, lz]; omega) ?_⟩
    rw [List.set_append_left _ _ (by omega), List.take_append_of_le_length (by simp [lp]), List.take_of_length_le (by simp [lp])]
    rw [List.getElem_append_left (by omega)] at hv
    intro he
    apply hv
    have := congrArg (fun l => l[k]?) he
    simp only [List.getElem?_set_self (by omega : k < penv.length), List.getElem?_eq_getElem (by omega : k < penv.length)] at this
    exact Option.some.inj this
  have hv1 : v ≠ (x ++ y ++ z ++ d)[k - 4]'(by simp [lx, ly, lz] at hk ⊢; simp [lp] at hk; omega) := by
    rw [List.getElem_append_right (by omega)] at hv
    simpa [lp] using hv
  rw [List.set_append_right _ _ (by omega), lp]
  have hk2 : k - 4 < 12 + d.length := by simp [lx, ly, lz, lp] at hk; omega
  by_cases k8 : k < 8
  · refine ⟨9, by decide, ?_⟩
    rw [List.set_append_left _ _ (by simp [lx, ly, lz]; omega), List.set_append_left _ _ (by simp [lx, ly]; omega), List.set_append_left _ _ (by omega)]
    refine recL_bad _ y z d (by simp [lx]) ly lz hyb hd ?_
    rw [hz]
    have := crcOf_set call (x ++ y ++ d) (k - 4) v (by simp [lx, ly]; omega) (by
      rw [List.getElem_append_left (by simp [lx, ly]; omega), List.getElem_append_left (by omega)]
      rw [List.getElem_append_left (by simp [lx, ly, lz]; omega), List.getElem_append_left (by simp [lx, ly]; omega), List.getElem_append_left (by omega)] at hv1
      exact hv1)
    rw [List.set_append_left _ _ (by simp [lx, ly]; omega), List.set_append_left _ _ (by omega)] at this
    exact this
  have k12 : 12 ≤ k := by omega
  by_cases k16 : k < 16
  · refine ⟨9, by decide, ?_⟩
    rw [List.set_append_left _ _ (by simp [lx, ly, lz]; omega), List.set_append_right _ _ (by simp [lx, ly]; omega)]
    have he : k - 4 - (x ++ y).length = k - 12 := by simp [lx, ly]; omega
    rw [he]
    refine recL_bad x y _ d lx ly (by simp [lz]) hyb hd ?_
    have := big_set lz (k - 12) v (by omega) (by
      rw [List.getElem_append_left (by simp [lx, ly, lz]; omega), List.getElem_append_right (by simp [lx, ly]; omega)] at hv1
      have he2 : k - 4 - (x.length + y.length) = k - 12 := by omega
      simpa [he2] using hv1)
    rw [← hz]
    omega
  · refine ⟨9, by decide, ?_⟩
    rw [List.set_append_right _ _ (by simp [lx, ly, lz]; omega)]
    have he : k - 4 - (x ++ y ++ z).length = k - 16 := by simp [lx, ly, lz]; omega
    rw [he]
    refine recL_bad x y z _ lx ly lz (by simpa using hyb) (by simpa using hd) ?_
    rw [hz]
    have := crcOf_set call (x ++ y ++ d) (k - 8) v (by simp [lx, ly]; omega) (by
      rw [List.getElem_append_right (by simp [lx, ly]; omega)] at hv1 ⊢
      have e2 : k - 8 - (x ++ y).length = k - 16 := by simp [lx, ly]; omega
      have he2 : k - 4 - (x.length + (y.length + z.length)) = k - 16 := by omega
      have he3 : k - 8 - (x.length + y.length) = k - 16 := by omega
      simpa [he2, he3] using hv1)
    rw [List.set_append_right _ _ (by simp [lx, ly]; omega)] at this
    have e2 : k - 8 - (x ++ y).length = k - 16 := by simp [lx, ly]; omega
    rw [e2] at this
    exact this
end Go.Proofs.Ythpgppamdejjhaa.AL
