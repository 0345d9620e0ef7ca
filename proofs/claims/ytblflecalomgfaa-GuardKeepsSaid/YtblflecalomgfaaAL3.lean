/- The quiet operations' answers are the machine's: addresses, cuts, lengths, strings out of bytes. -/
import Derived.Test.YtblflecalomgfaaAL2
set_option linter.unusedVariables false
set_option linter.unusedSimpArgs false
namespace Go.Proofs.Ytblflecalomgfaa.AL
open Go
section
variable {P : Program} {g : Ghost} {w : World}
def tField (P : Program) (s : TypeId) (f : Nat) : Option Nat :=
  match P.underlying s with
  | some (.struct fields) => match fields[f]? with
    | some fd => match tSize P fd.type with
      | some (n + 1) => some fd.offset
      | _ => none
    | none => none
  | _ => none
theorem run_fieldAddr {s : TypeId} {f off : Nat} {v : Value} {x y : AV} (ht : tField P s f = some off) (hx : Rep g w v x) (h : afieldAddr off x = some y) :
    ∃ u, (Instr.fieldAt s v f).run P w = .ok u w ∧ Rep g w u y := by
  unfold tField at ht
  split at ht <;> (try (cases ht; done))
  rename_i fields hu
  split at ht <;> (try (cases ht; done))
  rename_i fd hf
  split at ht <;> (try (cases ht; done))
  rename_i n hn
  obtain rfl := Option.some.inj ht
  have hp : ∀ a, (fieldPlace a fd).run P w = .ok (a.add fd.offset) w := by
    intro a
    simp [fieldPlace, run_sizeOf hn]
  unfold afieldAddr at h
  split at h <;> (try (cases h; done))
  · cases hx
    rename_i id gen o b hb
    obtain rfl := Option.some.inj h
    refine ⟨.pointer (some ⟨b, o + fd.offset, none⟩), ?_, .ptr _ _ _ _ hb⟩
    simp [Instr.fieldAt, run_underlying hu, hf, Instr.sureAddr, hp, Addr.add_lit]
  · cases hx
    rename_i ys b o u h1 h2 h3
    obtain rfl := Option.some.inj h
    refine ⟨.pointer (some ⟨b, o + fd.offset, none⟩), ?_, .rd b (o + fd.offset) _ (fun k => u (fd.offset + k)) h1 (fun k hk => ?_) (fun i y hy => ?_)⟩
    · simp [Instr.fieldAt, run_underlying hu, hf, Instr.sureAddr, hp, Addr.add_lit]
    · rw [Nat.add_assoc]; exact h2 _ (by simp at hk; omega)
    · rw [List.getElem?_drop] at hy
      exact h3 _ _ hy
def tElem (P : Program) (t : TypeId) : Option (TypeId × Nat) :=
  match P.underlying t with
  | some (.slice e) => (tSize P e).map fun n => (e, n)
  | _ => none
def tArr (P : Program) (t : TypeId) : Option (Nat × TypeId × Nat) :=
  match P.underlying t with
  | some (.array n e) => (tSize P e).map fun k => (n, e, k)
  | _ => none
theorem tElem_spec {t e : TypeId} {sz : Nat} (h : tElem P t = some (e, sz)) : P.underlying t = some (.slice e) ∧ tSize P e = some sz := by
  unfold tElem at h
  split at h <;> (try (cases h; done))
  obtain ⟨n, hn, he⟩ := Option.map_eq_some_iff.1 h
  simp only [Prod.mk.injEq] at he
  obtain ⟨rfl, rfl⟩ := he
  exact ⟨by assumption, hn⟩
theorem tArr_spec {t e : TypeId} {n sz : Nat} (h : tArr P t = some (n, e, sz)) : P.underlying t = some (.array n e) ∧ tSize P e = some sz := by
  unfold tArr at h
  split at h <;> (try (cases h; done))
  obtain ⟨k, hk, he⟩ := Option.map_eq_some_iff.1 h
  simp only [Prod.mk.injEq] at he
  obtain ⟨rfl, rfl, rfl⟩ := he
  exact ⟨by assumption, hk⟩
theorem run_idxSl {t e : TypeId} {sz : Nat} {u v : Value} {x i y : AV} (ht : tElem P t = some (e, sz)) (hx : Rep g w u x) (hi : Rep g w v i) (h : aidxSl sz x i = some y) :
    ∃ r, (Instr.indexAt t u v).run P w = .ok r w ∧ Rep g w r y := by
  obtain ⟨hu, hs⟩ := tElem_spec ht
  unfold aidxSl at h
  split at h <;> (try (cases h; done))
  · obtain ⟨b, c, e', n', rfl, h1, h2, h3, h4, h5⟩ := hx.wr_inv
    cases hi
    rename_i id gen o n s k i
    split at h <;> (try (cases h; done))
    rename_i hc
    obtain ⟨rfl, h0, hl⟩ := hc
    obtain rfl := Option.some.inj h
    refine ⟨.pointer (some ⟨b, o + i.toNat * s, none⟩), ?_, .ptr _ _ _ _ h1⟩
    simp [Instr.indexAt, asIntOf, run_underlying hu, h0, hl, run_sizeOf hs, Addr.add_lit]
  · obtain ⟨b, o, c, f, rfl, h2, h3, h4, h5, h6, h7⟩ := hx.imm_inv
    cases hi
    rename_i s xs k i
    split at h <;> (try (cases h; done))
    rename_i hc
    obtain ⟨rfl, h0⟩ := hc
    obtain ⟨z, hz, rfl⟩ := Option.map_eq_some_iff.1 h
    have hil : i.toNat < xs.length := (List.getElem?_eq_some_iff.1 hz).1
    have hzl : z.cells.length = s := h5 z (List.mem_of_getElem? hz)
    have hm : i.toNat * s + s ≤ xs.length * s := by rw [← Nat.succ_mul]; exact Nat.mul_le_mul_right _ (by omega)
    refine ⟨.pointer (some ⟨b, o + i.toNat * s, none⟩), ?_, .rd b (o + i.toNat * s) _ (fun k => f (i.toNat * s + k)) h4 (fun k hk => ?_) (fun j y hy => h7 _ _ _ _ hz hy)⟩
    · have hl : i < (xs.length : Int) := by omega
      simp [Instr.indexAt, asIntOf, run_underlying hu, h0, hl, run_sizeOf hs, Addr.add_lit]
    · rw [Nat.add_assoc]
      exact h6 _ (by omega)
theorem run_idxPt {t e : TypeId} {n sz : Nat} {u v : Value} {x i y : AV} (ht : tArr P t = some (n, e, sz)) (hx : Rep g w u x) (hi : Rep g w v i) (h : aidxPt sz n x i = some y) :
    ∃ r, (Instr.indexAt t u v).run P w = .ok r w ∧ Rep g w r y := by
  obtain ⟨hu, hs⟩ := tArr_spec ht
  unfold aidxPt at h
  split at h <;> (try (cases h; done))
  · obtain ⟨b, rfl, h1⟩ := hx.ptr_inv
    cases hi
    rename_i id gen o k i
    split at h <;> (try (cases h; done))
    rename_i hc
    obtain ⟨h0, hl⟩ := hc
    obtain rfl := Option.some.inj h
    refine ⟨.pointer (some ⟨b, o + i.toNat * sz, none⟩), ?_, .ptr _ _ _ _ h1⟩
    simp [Instr.indexAt, Instr.sureAddr, asIntOf, run_underlying hu, h0, hl, run_sizeOf hs, Addr.add_lit]
  · obtain ⟨b, o, f, rfl, h1, h2, h3⟩ := hx.rd_inv
    cases hi
    rename_i ys k i
    split at h <;> (try (cases h; done))
    rename_i hc
    obtain ⟨h0, hl⟩ := hc
    obtain rfl := Option.some.inj h
    refine ⟨.pointer (some ⟨b, o + i.toNat * sz, none⟩), ?_, .rd b (o + i.toNat * sz) _ (fun k => f (i.toNat * sz + k)) h1 (fun k hk => ?_) (fun i y hy => ?_)⟩
    · simp [Instr.indexAt, Instr.sureAddr, asIntOf, run_underlying hu, h0, hl, run_sizeOf hs, Addr.add_lit]
    · rw [Nat.add_assoc]; exact h2 _ (by simp at hk; omega)
    · rw [List.getElem?_drop] at hy
      exact h3 _ _ hy
theorem bytes_get (s : ByteArray) (i : Nat) (b : UInt8) (h : s.data.toList[i]? = some b) : s[i]? = some b := by
  obtain ⟨hl, hb⟩ := List.getElem?_eq_some_iff.1 h
  have hi : i < s.size := by simpa using hl
  rw [ByteArray.getElem?_lt' s i hi, ← hb]
  rfl
theorem run_idxStr {t : TypeId} {u v : Value} {x i y : AV} (ht : P.underlying t = some .string) (hx : Rep g w u x) (hi : Rep g w v i) (h : aidxStr x i = some y) :
    ∃ r, (Instr.index t u v).run P w = .ok r w ∧ Rep g w r y := by
  unfold aidxStr at h
  split at h <;> (try (cases h; done))
  cases hx; cases hi
  rename_i s k i
  split at h <;> (try (cases h; done))
  rename_i h0
  obtain ⟨b, hb, rfl⟩ := Option.map_eq_some_iff.1 h
  refine ⟨.int .u8 b.toNat, ?_, .int _ _⟩
  simp [Instr.index, asIntOf, run_underlying ht, h0, bytes_get s _ b hb]
theorem run_idxArr {t e : TypeId} {agg : Bool} {n sz : Nat} {u v : Value} {x i y : AV} (ht : tArr P t = some (n, e, sz)) (ha : tAgg P e = some agg) (hx : Rep g w u x) (hi : Rep g w v i) (h : aidxArr agg sz n x i = some y) :
    ∃ r, (Instr.index t u v).run P w = .ok r w ∧ Rep g w r y := by
  obtain ⟨hu, hs⟩ := tArr_spec ht
  unfold aidxArr at h
  split at h <;> (try (cases h; done))
  obtain ⟨vs, rfl, h1, h2⟩ := hx.agg_inv
  cases hi
  rename_i cs k i
  split at h <;> (try (cases h; done))
  rename_i hc
  obtain ⟨r, hr, hrep⟩ := run_apart ha hs ⟨h1, h2⟩ h
  refine ⟨r, ?_, hrep⟩
  simp [Instr.index, asIntOf, run_underlying hu, hc, run_sizeOf hs, hr]
def tFieldV (P : Program) (s : TypeId) (f : Nat) : Option (Bool × Nat × Nat) :=
  match P.underlying s with
  | some (.struct fields) => match fields[f]? with
    | some fd => match tAgg P fd.type, tSize P fd.type with
      | some b, some n => some (b, n, fd.offset)
      | _, _ => none
    | none => none
  | _ => none
def afield (agg : Bool) (n off : Nat) : AV → Option AV
  | .agg cs => apart agg n off cs
  | _ => none
theorem run_field {s : TypeId} {f off n : Nat} {agg : Bool} {v : Value} {x y : AV} (ht : tFieldV P s f = some (agg, n, off)) (hx : Rep g w v x) (h : afield agg n off x = some y) :
    ∃ u, (Instr.field s v f).run P w = .ok u w ∧ Rep g w u y := by
  unfold tFieldV at ht
  split at ht <;> (try (cases ht; done))
  rename_i fields hu
  split at ht <;> (try (cases ht; done))
  rename_i fd hf
  split at ht <;> (try (cases ht; done))
  rename_i b k hb hk
  simp only [Option.some.injEq, Prod.mk.injEq] at ht
  obtain ⟨rfl, rfl, rfl⟩ := ht
  unfold afield at h
  split at h <;> (try (cases h; done))
  obtain ⟨vs, rfl, h1, h2⟩ := hx.agg_inv
  obtain ⟨r, hr, hrep⟩ := run_apart hb hk ⟨h1, h2⟩ h
  refine ⟨r, ?_, hrep⟩
  simp [Instr.field, run_underlying hu, hf, asAgg, hr]
def tLen (P : Program) (t : TypeId) : Bool := match P.underlying t with | some .string | some (.slice _) => true | _ => false
theorem run_alen {t ty : TypeId} {v : Value} {x y : AV} (ht : tLen P t = true) (hx : Rep g w v x) (h : alen x = some y) (hs : ∀ s, x = .str s → P.underlying t = some .string) (hl : (∀ s, x ≠ .str s) → ∃ e, P.underlying t = some (.slice e)) :
    ∃ u, (Builtin.len_ #[t] ty #[v]).run P w = .ok u w ∧ Rep g w u y := by
  unfold alen at h
  split at h <;> (try (cases h; done)) <;> obtain rfl := Option.some.inj h
  · have := hs _ rfl
    cases hx
    exact ⟨_, by simp [Builtin.len_, run_underlying this, goInt], .int _ _⟩
  all_goals
    obtain ⟨e, he⟩ := hl (by intro s hh; cases hh)
  · cases hx
    exact ⟨_, by simp [Builtin.len_, run_underlying he, goInt], .int _ _⟩
  · cases hx
    exact ⟨_, by simp [Builtin.len_, run_underlying he, goInt], .int _ _⟩
  · obtain ⟨b, o, c, f, rfl, _⟩ := hx.imm_inv
    exact ⟨_, by simp [Builtin.len_, run_underlying he, goInt], .int _ _⟩
  · obtain ⟨b, c, e', n', rfl, _⟩ := hx.wr_inv
    exact ⟨_, by simp [Builtin.len_, run_underlying he, goInt], .int _ _⟩
end
end Go.Proofs.Ytblflecalomgfaa.AL
