/- The quiet operations' answers are the machine's: cuts, strings out of bytes, comparisons with nil, composites. -/
import Derived.Test.YtblflecalomgfaaAL3
import Derived.Laws.BytesArg
set_option linter.unusedVariables false
set_option linter.unusedSimpArgs false
namespace Go.Proofs.Ytblflecalomgfaa.AL
open Go
section
variable {P : Program} {g : Ghost} {w : World}
def OptRep (g : Ghost) (w : World) : Option Value → Option AV → Prop
  | none, none => True
  | some v, some y => Rep g w v y
  | _, _ => False
theorem bound_is {lo : Option Value} {lo' : Option AV} {d l : Int} (hlo : OptRep g w lo lo') (hl : abound d lo' = some l) : (lo = none ∧ l = d) ∨ ∃ k, lo = some (.int k l) := by
  cases lo with
  | none =>
    cases lo' with
    | none => simp [abound] at hl; exact .inl ⟨rfl, hl.symm⟩
    | some y => exact hlo.elim
  | some v =>
    cases lo' with
    | none => exact hlo.elim
    | some y =>
      unfold abound at hl
      split at hl <;> (try (cases hl; done))
      · rename_i hq; cases hq
      · rename_i k i hq
        obtain rfl := Option.some.inj hl
        obtain rfl := Option.some.inj hq
        cases hlo
        exact .inr ⟨k, rfl⟩
theorem run_bounds (isSl : Bool) (len cap : Nat) {lo hi : Option Value} {lo' hi' : Option AV} (hlo : OptRep g w lo lo') (hhi : OptRep g w hi hi') {l h : Int}
    (hl : abound 0 lo' = some l) (hh : abound len hi' = some h) (h0 : 0 ≤ l) (h1 : l ≤ h) (h2 : h ≤ cap) :
    (Instr.sliceBounds isSl len cap lo hi none).run P w = .ok (l.toNat, h.toNat, cap) w := by
  have eh : (h.toNat : Int) = h := Int.toNat_of_nonneg (by omega)
  have h3 : (0 : Int) ≤ h := by omega
  rcases bound_is hlo hl with ⟨rfl, rfl⟩ | ⟨k, rfl⟩ <;> rcases bound_is hhi hh with ⟨rfl, rfl⟩ | ⟨k', rfl⟩
  · simp [Instr.sliceBounds]
  · simp [Instr.sliceBounds, run_sliceBound, *]
  · simp only [Int.toNat_natCast] at *
    simp [Instr.sliceBounds, run_sliceBound, *]
  · simp [Instr.sliceBounds, run_sliceBound, *]
theorem run_sliceStr {t : TypeId} {v : Value} {lo hi : Option Value} {x y : AV} {lo' hi' : Option AV} (ht : P.underlying t = some .string) (hx : Rep g w v x) (hlo : OptRep g w lo lo') (hhi : OptRep g w hi hi') (h : asliceStr x lo' hi' = some y) :
    ∃ u, (Instr.sliceAt t v lo hi none).run P w = .ok u w ∧ Rep g w u y := by
  cases x with
  | str s =>
    simp only [asliceStr] at h
    split at h <;> (try (cases h; done))
    rename_i l b hl hb
    split at h <;> (try (cases h; done))
    rename_i hc
    cases hx
    obtain rfl := Option.some.inj h
    refine ⟨.string (s.extract l.toNat b.toNat), ?_, .str _⟩
    have := run_bounds (P := P) false s.size s.size hlo hhi hl hb hc.1 hc.2.1 hc.2.2
    simp [Instr.sliceAt, Instr.slice, run_underlying ht, this]
  | _ => simp [asliceStr] at h
theorem run_sliceSl {t e : TypeId} {sz : Nat} {v : Value} {lo hi : Option Value} {x y : AV} {lo' hi' : Option AV} (ht : tElem P t = some (e, sz)) (hx : Rep g w v x) (hlo : OptRep g w lo lo') (hhi : OptRep g w hi hi') (h : asliceSl sz x lo' hi' = some y) :
    ∃ u, (Instr.sliceAt t v lo hi none).run P w = .ok u w ∧ Rep g w u y := by
  obtain ⟨hu, hs⟩ := tElem_spec ht
  have key : ∀ (a : Option Addr) (len cap : Nat) (l b : Int), abound 0 lo' = some l → abound len hi' = some b → 0 ≤ l → l ≤ b → b ≤ cap →
      (Instr.sliceAt t (.slice a len cap) lo hi none).run P w = .ok (.slice (if cap = l.toNat then a else a.map (·.add (l.toNat * sz))) (b.toNat - l.toNat) (cap - l.toNat)) w := by
    intro a len cap l b hl hb h0 h1 h2
    have := run_bounds (P := P) true len cap hlo hhi hl hb h0 h1 h2
    simp [Instr.sliceAt, Instr.slice, run_underlying hu, this, run_sizeOf hs]
  cases x with
  | nils =>
    simp only [asliceSl] at h
    split at h <;> (try (cases h; done))
    rename_i hl hb
    cases hx
    obtain rfl := Option.some.inj h
    refine ⟨_, key none 0 0 0 0 hl hb (by omega) (by omega) (by omega), ?_⟩
    simpa using Rep.nils
  | imm s xs =>
    obtain ⟨b, o, c, f, rfl, h2, h3, h4, h5, h6, h7⟩ := hx.imm_inv
    simp only [asliceSl] at h
    split at h <;> (try (cases h; done))
    rename_i l r hl hr
    split at h <;> (try (cases h; done))
    rename_i hc
    obtain ⟨rfl, c0, c1, c2⟩ := hc
    obtain rfl := Option.some.inj h
    refine ⟨_, key (some ⟨b, o, none⟩) xs.length c l r hl hr c0 c1 (by omega), ?_⟩
    have hlen : r.toNat - l.toNat = ((xs.take r.toNat).drop l.toNat).length := by simp; omega
    by_cases hcl : c = l.toNat
    · rw [if_pos hcl]
      have hnil : (xs.take r.toNat).drop l.toNat = [] := List.eq_nil_of_length_eq_zero (by rw [← hlen]; omega)
      rw [hnil] at hlen ⊢
      exact .imm s [] b o _ _ (fun _ => undef) hlen (by omega) (by omega) h4 (by simp) (fun k hk => by rw [hlen] at hk; simp at hk) (by simp)
    · rw [if_neg hcl]
      simp only [Option.map_some, Addr.add_lit]
      refine .imm s _ b (o + l.toNat * s) _ _ (fun k => f (l.toNat * s + k)) hlen (by omega) (by omega) h4 (fun x hx => h5 x (List.mem_of_mem_take (List.mem_of_mem_drop hx))) (fun k hk => ?_) (fun j x i y hx hy => ?_)
      · rw [Nat.add_assoc]
        apply h6
        have : (r.toNat - l.toNat) * s + l.toNat * s ≤ xs.length * s := by rw [← Nat.add_mul]; exact Nat.mul_le_mul_right _ (by omega)
        omega
      · rw [List.getElem?_drop, List.getElem?_take] at hx
        split at hx
        · have := h7 _ x i y hx hy
          rw [Nat.add_mul, Nat.add_assoc] at this
          exact this
        · cases hx
  | wr id gen o n s =>
    obtain ⟨b, c, e', n', rfl, h1, h2, h3, h4, h5⟩ := hx.wr_inv
    simp only [asliceSl] at h
    split at h <;> (try (cases h; done))
    rename_i l r hl hr
    split at h <;> (try (cases h; done))
    rename_i hc
    obtain ⟨rfl, c0, c1, c2⟩ := hc
    refine ⟨_, key (some ⟨b, o, none⟩) n c l r hl hr c0 c1 (by omega), ?_⟩
    split at h
    · rename_i hd
      obtain rfl := Option.some.inj h
      have hb : o + l.toNat * s + (c - l.toNat) * s ≤ n' := by
        have : l.toNat * s + (c - l.toNat) * s = c * s := by rw [← Nat.add_mul]; congr 1; omega
        omega
      by_cases hcl : c = l.toNat
      · rw [if_pos hcl]
        have hl0 : l = 0 := by omega
        subst hl0
        simp only [Int.toNat_zero, Nat.zero_mul, Nat.add_zero, Nat.sub_zero] at hb ⊢
        exact .wr _ _ _ _ _ b _ e' n' h1 h2 hb (by omega) (by omega)
      · rw [if_neg hcl]
        simp only [Option.map_some, Addr.add_lit]
        exact .wr _ _ _ _ _ b _ e' n' h1 h2 hb (by omega) (by omega)
    · obtain rfl := Option.some.inj h
      have hz : r.toNat - l.toNat = 0 := by omega
      rw [hz]
      split
      · exact .emp _ _
      · exact .emp _ _
  | emp =>
    simp only [asliceSl] at h
    split at h <;> (try (cases h; done))
    rename_i hl hb
    cases hx
    rename_i a c
    obtain rfl := Option.some.inj h
    refine ⟨_, key (some a) 0 c 0 0 hl hb (by omega) (by omega) (by omega), ?_⟩
    simp only [Int.toNat_zero, Nat.sub_zero]
    split
    · exact .emp _ _
    · exact .emp _ _
  | _ => simp [asliceSl] at h
/-! ### a string out of bytes -/
theorem bytes_rep {vs : List AV} {bs : List UInt8} (h : vs.mapM abyte = some bs) : ∃ ns : List Int, vs = ns.map (AV.int .u8) ∧ bs = ns.map (fun n => UInt8.ofNat n.toNat) := by
  induction vs generalizing bs with
  | nil => simp at h; subst h; exact ⟨[], rfl, rfl⟩
  | cons v vs ih =>
    simp only [List.mapM_cons, Option.bind_eq_bind, Option.bind_eq_some_iff, Option.pure_def, Option.some.injEq] at h
    obtain ⟨b, hb, bs', hbs, rfl⟩ := h
    obtain ⟨ns, rfl, rfl⟩ := ih hbs
    unfold abyte at hb
    split at hb <;> (try (cases hb; done))
    rename_i n
    obtain rfl := Option.some.inj hb
    exact ⟨n :: ns, rfl, rfl⟩
theorem foldl_push (ns : List Int) (s : ByteArray) : ns.foldl (fun r n => r.push (UInt8.ofNat n.toNat)) s = s ++ ⟨(ns.map fun n => UInt8.ofNat n.toNat).toArray⟩ := by
  induction ns generalizing s with
  | nil =>
    simp only [List.foldl_nil, List.map_nil]
    ext1
    simp
  | cons n ns ih =>
    rw [List.foldl_cons, ih]
    ext1
    simp [ByteArray.push]
theorem run_ab2s {H : AHeap} (hS : Sim g w H) {src dst e : TypeId} {v : Value} {x y : AV} (hs : P.underlying src = some (.slice e)) (he : P.underlying e = some (.int .u8)) (hd : P.underlying dst = some .string) (hx : Rep g w v x) (h : ab2s H x = some y) :
    ∃ u, (convert src dst v).run P w = .ok u w ∧ Rep g w u y := by
  unfold ab2s at h
  obtain ⟨xs, hxs, h⟩ := Option.bind_eq_some_iff.1 h
  obtain ⟨bs, hbs, rfl⟩ := Option.map_eq_some_iff.1 h
  obtain ⟨ns, rfl, rfl⟩ := bytes_rep hbs
  have key : ∀ (b o c : Nat), (∀ (i : Nat) (y : AV), (ns.map (AV.int .u8))[i]? = some y → ∃ u, w.cell? ⟨b, o + i, none⟩ = some u ∧ Rep g w u y) →
      (convert src dst (.slice (some ⟨b, o, none⟩) ns.length c)).run P w = .ok (.string ⟨(ns.map fun n => UInt8.ofNat n.toNat).toArray⟩) w := by
    intro b o c hc
    have hl : (loadCells ⟨b, o, none⟩ ns.length).run P w = .ok (ns.map (Value.int .u8)).toArray w := by
      have := run_loadCells_list (P := P) w ⟨b, o, none⟩ (ns.map (Value.int .u8)) (fun j u hj => by
        rw [List.getElem?_map] at hj
        obtain ⟨n, hn, rfl⟩ := Option.map_eq_some_iff.1 hj
        obtain ⟨u, hu, hr⟩ := hc j (.int .u8 n) (by rw [List.getElem?_map, hn]; rfl)
        cases hr
        rw [Addr.add_lit]
        exact hu)
      simpa using this
    rw [run_convert_bytes_string w src dst e _ _ c hs he hd, run_bytesToString w _ _ c ns hl, foldl_push]
    congr 2
  unfold aelems at hxs
  split at hxs <;> (try (cases hxs; done))
  · cases hx
    have : ns = [] := by simpa using (Option.some.inj hxs).symm
    subst this
    exact ⟨_, run_convert_bytes_nil w src e hs he 0 0 dst hd, by exact .str _⟩
  · cases hx
    rename_i a c
    have : ns = [] := by simpa using (Option.some.inj hxs).symm
    subst this
    refine ⟨.string ⟨#[]⟩, ?_, .str _⟩
    rw [run_convert_bytes_string w src dst e _ _ c hs he hd]
    simp [Conv.bytesToString, loadCells, loadCellsFrom, ByteArray.empty, ByteArray.emptyWithCapacity]
    rfl
  · obtain ⟨b, o, c, f, rfl, h2, h3, h4, h5, h6, h7⟩ := hx.imm_inv
    obtain rfl := Option.some.inj hxs
    refine ⟨_, ?_, .str _⟩
    have hl : (ns.map (AV.int .u8)).length = ns.length := List.length_map _
    rw [hl]
    refine key b o c (fun i y hy => ?_)
    have hi : i < (ns.map (AV.int .u8)).length := (List.getElem?_eq_some_iff.1 hy).1
    refine ⟨f i, h6 i (by simpa using hi), ?_⟩
    have h8 : y.cells[0]? = some y := by
      rw [List.getElem?_map] at hy
      obtain ⟨n, _, rfl⟩ := Option.map_eq_some_iff.1 hy
      rfl
    simpa using h7 i y 0 y hy h8
  · obtain ⟨b, c, e', n', rfl, h1, h2, h3, h4, h5⟩ := hx.wr_inv
    rename_i id gen o n
    split at hxs <;> (try (cases hxs; done))
    rename_i e2 g2 cs hg
    split at hxs <;> (try (cases hxs; done))
    rename_i hc
    obtain ⟨rfl, hc⟩ := hc
    have hxs' := Option.some.inj hxs
    have hlen : n = ns.length := by
      have := congrArg List.length hxs'
      simp at this
      omega
    refine ⟨_, ?_, .str _⟩
    subst hlen
    refine key b o c (fun i y hy => ?_)
    have hi : i < ns.length := by have := (List.getElem?_eq_some_iff.1 hy).1; simpa using this
    rw [← hxs', List.getElem?_take, if_pos hi, List.getElem?_drop] at hy
    obtain ⟨u, hu, hr⟩ := live_row hS hg h1 (o + i) y hy
    rw [Nat.zero_add] at hu
    exact ⟨u, hu, hr⟩
end
end Go.Proofs.Ytblflecalomgfaa.AL
