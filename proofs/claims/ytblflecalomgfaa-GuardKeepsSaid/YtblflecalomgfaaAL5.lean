/- The quiet operations' answers are the machine's: '==' of composites. -/
import Derived.Test.YtblflecalomgfaaAL4
import Derived.Laws.StructEq
import Derived.ChangeKeysEq
set_option linter.unusedVariables false
set_option linter.unusedSimpArgs false
namespace Go.Proofs.Ytblflecalomgfaa.AL
open Go
inductive Leaf where
  | b
  | i (k : IntKind)
  | s
  deriving DecidableEq, Inhabited
def fit1 : Leaf → AV → Bool
  | .b, .bool _ => true
  | .i k, .int k' _ => k == k'
  | .s, .str _ => true
  | _, _ => false
def fits : List Leaf → List AV → Bool
  | [], [] => true
  | l :: ls, c :: cs => fit1 l c && fits ls cs
  | _, _ => false
def aeqv : AV → AV → Bool
  | .bool a, .bool b => a == b
  | .int _ a, .int _ b => a == b
  | .str s, .str t => s.toList == t.toList
  | _, _ => false
def aeqs : List AV → List AV → Bool
  | x :: xs, y :: ys => aeqv x y && aeqs xs ys
  | _, _ => true
/-- '==' of structs and arrays whose cells are all numbers, bools and strings. -/
def aseq (ls : List Leaf) : AV → AV → Option Bool
  | .agg xs, .agg ys => if fits ls xs = true ∧ fits ls ys = true then some (aeqs xs ys) else none
  | _, _ => none
theorem fits_len : ∀ {ls : List Leaf} {cs : List AV}, fits ls cs = true → cs.length = ls.length
  | [], [], _ => rfl
  | l :: ls, c :: cs, h => by
    simp only [fits, Bool.and_eq_true] at h
    simp [fits_len h.2]
  | [], c :: cs, h => by simp [fits] at h
  | l :: ls, [], h => by simp [fits] at h
theorem fits_append : ∀ {l1 l2 : List Leaf} {cs : List AV}, fits (l1 ++ l2) cs = true → fits l1 (cs.take l1.length) = true ∧ fits l2 (cs.drop l1.length) = true
  | [], l2, cs, h => ⟨rfl, h⟩
  | l :: l1, l2, [], h => by simp [fits] at h
  | l :: l1, l2, c :: cs, h => by
    simp only [List.cons_append, fits, Bool.and_eq_true] at h
    obtain ⟨h1, h2⟩ := fits_append h.2
    simp [fits, h.1, h1, h2]
theorem aeqs_split : ∀ (n : Nat) (xs ys : List AV), xs.length = ys.length → aeqs xs ys = (aeqs (xs.take n) (ys.take n) && aeqs (xs.drop n) (ys.drop n))
  | 0, xs, ys, _ => by simp [aeqs]
  | n + 1, [], [], _ => by simp [aeqs]
  | n + 1, x :: xs, y :: ys, h => by
    simp only [List.take_succ_cons, List.drop_succ_cons, aeqs]
    rw [aeqs_split n xs ys (by simpa using h), Bool.and_assoc]
  | n + 1, [], y :: ys, h => by simp at h
  | n + 1, x :: xs, [], h => by simp at h
section
variable {P : Program} {g : Ghost} {w : World}
/-- The leaves of fields that lie one behind the other, from o on. -/
def leavesF (P : Program) (L : TypeId → Option (List Leaf)) (o : Nat) : List Field → Option (List Leaf)
  | [] => some []
  | f :: fs => if f.offset = o ∧ f.name ≠ "_" then (match L f.type with
    | some l => if tSize P f.type = some l.length then (leavesF P L (o + l.length) fs).map (l ++ ·) else none
    | none => none) else none
def leavesA (l : List Leaf) : Nat → List Leaf
  | 0 => []
  | n + 1 => l ++ leavesA l n
/-- The cells' kinds of a type that can be compared cell by cell. -/
def leaves (P : Program) : Nat → TypeId → Option (List Leaf)
  | 0, _ => none
  | D + 1, t => match P.underlying t with
    | some .bool => some [.b]
    | some (.int k) => some [.i k]
    | some .string => some [.s]
    | some (.struct fs) => if P.stoodInHeld t = false then leavesF P (leaves P D) 0 fs.toList else none
    | some (.array n e) => match leaves P D e with
      | some l => if tSize P e = some l.length then some (leavesA l n) else none
      | none => none
    | _ => none
/-- A value of type t with such cells. -/
def VF (P : Program) (t : TypeId) (ls : List Leaf) (x : AV) : Prop := fits ls x.cells = true ∧ (tAgg P t = some true → ∃ cs, x = .agg cs) ∧ (tAgg P t = some false → x.one = true)
theorem part_VF {t : TypeId} {agg : Bool} {l1 : List Leaf} {cs : List AV} {o : Nat} (ha : tAgg P t = some agg) (hs : agg = false → l1.length = 1) (hle : o + l1.length ≤ cs.length) (hf : fits l1 ((cs.drop o).take l1.length) = true) :
    ∃ x, apart agg l1.length o cs = some x ∧ x.cells = (cs.drop o).take l1.length ∧ VF P t l1 x := by
  cases agg with
  | true =>
    refine ⟨.agg ((cs.drop o).take l1.length), by simp [apart, hle], rfl, hf, fun _ => ⟨_, rfl⟩, fun h => ?_⟩
    rw [ha] at h; cases h
  | false =>
    have h1 := hs rfl
    have hlt : o < cs.length := by omega
    have hg : cs[o]? = some cs[o] := List.getElem?_eq_getElem hlt
    have ht : (cs.drop o).take l1.length = [cs[o]] := by
      rw [h1, List.drop_eq_getElem_cons hlt]; rfl
    have hone : cs[o].one = true := by
      rw [ht] at hf
      match l1, hf with
      | [l], hf =>
        simp only [fits, Bool.and_true] at hf
        cases hq : cs[o] <;> rw [hq] at hf <;> cases l <;> simp_all [fit1, AV.one]
    have hc : cs[o].cells = [cs[o]] := by
      cases hq : cs[o] <;> rw [hq] at hone <;> simp [AV.one, AV.cells] at hone ⊢
    refine ⟨cs[o], by simp [apart, hg], by rw [ht, hc], ⟨by rw [hc, ← ht]; exact hf, fun h => ?_, fun _ => hone⟩⟩
    rw [ha] at h; cases h
theorem leaves_agg {D : Nat} {t : TypeId} {ls : List Leaf} (h : leaves P D t = some ls) : ∃ agg, tAgg P t = some agg ∧ (agg = false → ls.length = 1) := by
  cases D with
  | zero => cases h
  | succ D =>
    simp only [leaves] at h
    split at h <;> rename_i hu <;> (try (cases h; done))
    · obtain rfl := Option.some.inj h; exact ⟨false, by simp [tAgg, hu], fun _ => rfl⟩
    · obtain rfl := Option.some.inj h; exact ⟨false, by simp [tAgg, hu], fun _ => rfl⟩
    · obtain rfl := Option.some.inj h; exact ⟨false, by simp [tAgg, hu], fun _ => rfl⟩
    · exact ⟨true, by simp [tAgg, hu], fun e => by cases e⟩
    · exact ⟨true, by simp [tAgg, hu], fun e => by cases e⟩
theorem run_eqs : ∀ (D d : Nat) (t : TypeId) (ls : List Leaf) (u v : Value) (x y : AV), D ≤ d → leaves P D t = some ls → Rep g w u x → Rep g w v y → VF P t ls x → VF P t ls y →
    (Op.equalIn d t u v).run P w = .ok (aeqs x.cells y.cells) w := by
  intro D
  induction D with
  | zero => intro d t ls u v x y _ h; cases h
  | succ D ih =>
    intro d t ls u v x y hd he hx hy hvx hvy
    obtain ⟨d, rfl⟩ : ∃ k, d = k + 1 := ⟨d - 1, by omega⟩
    simp only [leaves] at he
    have one : ∀ {l : Leaf} {z : AV}, fits [l] z.cells = true → z.one = true → fit1 l z = true ∧ z.cells = [z] := by
      intro l z h1 h2
      have : z.cells = [z] := by cases z <;> simp [AV.one, AV.cells] at h2 ⊢
      rw [this] at h1
      simp only [fits, Bool.and_true] at h1
      exact ⟨h1, this⟩
    split at he <;> rename_i hu <;> (try (cases he; done))
    · obtain rfl := Option.some.inj he
      have hg : tAgg P t = some false := by simp [tAgg, hu]
      obtain ⟨a1, a2⟩ := one hvx.1 (hvx.2.2 hg)
      obtain ⟨b1, b2⟩ := one hvy.1 (hvy.2.2 hg)
      rw [a2, b2]
      cases x <;> simp [fit1] at a1
      cases y <;> simp [fit1] at b1
      cases hx; cases hy
      rw [run_equalIn_bool' w d t _ _ hu]
      simp [aeqs, aeqv]
    · rename_i k
      obtain rfl := Option.some.inj he
      have hg : tAgg P t = some false := by simp [tAgg, hu]
      obtain ⟨a1, a2⟩ := one hvx.1 (hvx.2.2 hg)
      obtain ⟨b1, b2⟩ := one hvy.1 (hvy.2.2 hg)
      rw [a2, b2]
      cases x <;> simp [fit1] at a1
      cases y <;> simp [fit1] at b1
      subst a1; subst b1
      cases hx; cases hy
      rw [run_equalIn_int w d t k _ _ _ hu]
      simp [aeqs, aeqv]
    · obtain rfl := Option.some.inj he
      have hg : tAgg P t = some false := by simp [tAgg, hu]
      obtain ⟨a1, a2⟩ := one hvx.1 (hvx.2.2 hg)
      obtain ⟨b1, b2⟩ := one hvy.1 (hvy.2.2 hg)
      rw [a2, b2]
      cases x <;> simp [fit1] at a1
      cases y <;> simp [fit1] at b1
      cases hx; cases hy
      rw [run_equalIn_string w d t _ _ hu]
      simp [aeqs, aeqv]
    · rename_i fs
      have hg : tAgg P t = some true := by simp [tAgg, hu]
      split at he <;> (try (cases he; done))
      rename_i hst
      obtain ⟨xs, rfl⟩ := hvx.2.1 hg
      obtain ⟨ys, rfl⟩ := hvy.2.1 hg
      obtain ⟨us, rfl, hxs⟩ := hx.agg_inv
      obtain ⟨vs, rfl, hys⟩ := hy.agg_inv
      have hff : P.fieldsOf t = fs := by simp [Program.fieldsOf, hu]
      rw [run_equalIn_struct (P := P) w d t us vs (by rw [hff]; exact hu) hst, hff]
      have key : ∀ (l : List Field) (o : Nat) (ls : List Leaf), leavesF P (leaves P D) o l = some ls → fits ls (xs.drop o) = true → fits ls (ys.drop o) = true → o ≤ xs.length → o ≤ ys.length →
          (Op.eqFields d us vs l).run P w = .ok (aeqs (xs.drop o) (ys.drop o)) w := by
        intro l
        induction l with
        | nil =>
          intro o ls h1 h2 h3 _ _
          obtain rfl := Option.some.inj h1
          have e1 := fits_len h2
          have e2 := fits_len h3
          rw [List.eq_nil_of_length_eq_zero e1, List.eq_nil_of_length_eq_zero e2]
          simp [Op.eqFields, aeqs]
        | cons f l ihl =>
          intro o ls h1 h2 h3 ho1 ho2
          simp only [leavesF] at h1
          split at h1 <;> (try (cases h1; done))
          rename_i hc
          obtain ⟨rfl, hname⟩ := hc
          split at h1 <;> (try (cases h1; done))
          rename_i l1 hl1
          split at h1 <;> (try (cases h1; done))
          rename_i hsz
          obtain ⟨l2, hl2, rfl⟩ := Option.map_eq_some_iff.1 h1
          obtain ⟨p1, p2⟩ := fits_append h2
          obtain ⟨q1, q2⟩ := fits_append h3
          obtain ⟨agg, hagg, hone⟩ := leaves_agg hl1
          have z1 := fits_len p1
          have z2 := fits_len q1
          simp only [List.length_take, List.length_drop] at z1 z2
          obtain ⟨x1, hx1, cx1, vx1⟩ := part_VF hagg hone (by omega) p1
          obtain ⟨y1, hy1, cy1, vy1⟩ := part_VF hagg hone (by omega) q1
          obtain ⟨u1, hu1, ru1⟩ := run_apart (P := P) (w := w) hagg hsz hxs hx1
          obtain ⟨v1, hv1, rv1⟩ := run_apart (P := P) (w := w) hagg hsz hys hy1
          have he1 := ih d f.type l1 u1 v1 x1 y1 (by omega) hl1 ru1 rv1 vx1 vy1
          rw [List.drop_drop] at p2 q2
          have he2 := ihl (f.offset + l1.length) l2 hl2 p2 q2 (by omega) (by omega)
          have hsp := aeqs_split l1.length (xs.drop f.offset) (ys.drop f.offset) (by
            have := fits_len h2; have := fits_len h3; omega)
          rw [hsp, ← cx1, ← cy1, List.drop_drop, List.drop_drop]
          simp only [Op.eqFields, if_pos hname, Sem.run_bind, hu1, hv1, he1, Result.andThen_ok]
          cases aeqs x1.cells y1.cells
          · simp
          · simpa using he2
      exact key fs.toList 0 ls he (by simpa [AV.cells] using hvx.1) (by simpa [AV.cells] using hvy.1) (Nat.zero_le _) (Nat.zero_le _)
    · rename_i n e
      have hg : tAgg P t = some true := by simp [tAgg, hu]
      split at he <;> (try (cases he; done))
      rename_i l1 hl1
      split at he <;> (try (cases he; done))
      rename_i hsz
      obtain rfl := Option.some.inj he
      obtain ⟨xs, rfl⟩ := hvx.2.1 hg
      obtain ⟨ys, rfl⟩ := hvy.2.1 hg
      obtain ⟨us, rfl, hxs⟩ := hx.agg_inv
      obtain ⟨vs, rfl, hys⟩ := hy.agg_inv
      have hsz' := hsz
      unfold tSize at hsz'
      obtain ⟨i0, hi0, hi1⟩ := Option.map_eq_some_iff.1 hsz'
      have hco : P.cellsOf e = l1.length := by simp [Program.cellsOf, hi0, hi1]
      rw [run_equalIn_array (P := P) w d us vs hu hi0, hco]
      obtain ⟨agg, hagg, hone⟩ := leaves_agg hl1
      have key : ∀ (m k : Nat), fits (leavesA l1 m) (xs.drop (k * l1.length)) = true → fits (leavesA l1 m) (ys.drop (k * l1.length)) = true → k * l1.length ≤ xs.length → k * l1.length ≤ ys.length →
          (Op.eqItems d e l1.length us vs (List.range' k m)).run P w = .ok (aeqs (xs.drop (k * l1.length)) (ys.drop (k * l1.length))) w := by
        intro m
        induction m with
        | zero =>
          intro k h2 h3 _ _
          have e1 := fits_len h2
          have e2 := fits_len h3
          rw [List.eq_nil_of_length_eq_zero e1, List.eq_nil_of_length_eq_zero e2]
          simp [Op.eqItems, aeqs]
        | succ m ihm =>
          intro k h2 h3 ho1 ho2
          simp only [leavesA] at h2 h3
          obtain ⟨p1, p2⟩ := fits_append h2
          obtain ⟨q1, q2⟩ := fits_append h3
          have z1 := fits_len p1
          have z2 := fits_len q1
          simp only [List.length_take, List.length_drop] at z1 z2
          obtain ⟨x1, hx1, cx1, vx1⟩ := part_VF hagg hone (by omega) p1
          obtain ⟨y1, hy1, cy1, vy1⟩ := part_VF hagg hone (by omega) q1
          obtain ⟨u1, hu1, ru1⟩ := run_apart (P := P) (w := w) hagg hsz hxs hx1
          obtain ⟨v1, hv1, rv1⟩ := run_apart (P := P) (w := w) hagg hsz hys hy1
          have he1 := ih d e l1 u1 v1 x1 y1 (by omega) hl1 ru1 rv1 vx1 vy1
          have hk : k * l1.length + l1.length = (k + 1) * l1.length := by rw [Nat.succ_mul]
          rw [List.drop_drop, hk] at p2 q2
          have he2 := ihm (k + 1) p2 q2 (by omega) (by omega)
          have hsp := aeqs_split l1.length (xs.drop (k * l1.length)) (ys.drop (k * l1.length)) (by
            have := fits_len h2; have := fits_len h3; omega)
          rw [hsp, ← cx1, ← cy1, List.drop_drop, List.drop_drop, hk]
          simp only [List.range'_succ, Op.eqItems, Sem.run_bind, hu1, hv1, he1, Result.andThen_ok]
          cases aeqs x1.cells y1.cells
          · simp
          · simpa using he2
      have := key n 0 (by simpa [AV.cells] using hvx.1) (by simpa [AV.cells] using hvy.1) (by simp) (by simp)
      rw [List.range_eq_range']
      simpa [AV.cells] using this
theorem run_aseq {t : TypeId} {ls : List Leaf} {u v : Value} {x y : AV} {b : Bool} (hl : leaves P 9 t = some ls) (hagg : tAgg P t = some true) (hgd : P.eqGuardType P.depth t = false) (hx : Rep g w u x) (hy : Rep g w v y) (h : aseq ls x y = some b) (o1 o2 : Operand) :
    (do eqGuard .eql t o1 o2 u v; binOp .eql t u v : Sem Value).run P w = .ok (.bool b) w ∧ (do eqGuard .neq t o1 o2 u v; binOp .neq t u v : Sem Value).run P w = .ok (.bool !b) w := by
  unfold aseq at h
  split at h <;> (try (cases h; done))
  rename_i xs ys
  split at h <;> (try (cases h; done))
  rename_i hf
  obtain rfl := Option.some.inj h
  obtain ⟨us, rfl, hxs⟩ := hx.agg_inv
  obtain ⟨vs, rfl, hys⟩ := hy.agg_inv
  have hvx : VF P t ls (.agg xs) := ⟨hf.1, fun _ => ⟨_, rfl⟩, fun h => by rw [hagg] at h; cases h⟩
  have hvy : VF P t ls (.agg ys) := ⟨hf.2, fun _ => ⟨_, rfl⟩, fun h => by rw [hagg] at h; cases h⟩
  have := run_eqs 9 10000 t ls _ _ _ _ (by omega) hl hx hy hvx hvy
  simp only [Sem.run_bind, run_eqGuard_agg w _ t o1 o2 us vs hgd, Result.andThen_ok, run_eql_struct w t us vs, run_neq_struct w t us vs, this]
  exact ⟨rfl, rfl⟩
end
end Go.Proofs.Ytblflecalomgfaa.AL
