/- Whole functions: their code told, their results, their callers. -/
import Derived.Test.YtblflecalomgfaaALN
set_option linter.unusedVariables false
set_option linter.unusedSimpArgs false
namespace Go.Proofs.Ytblflecalomgfaa.AL
open Go
/-- A text, by its bytes. -/
def B (l : List UInt8) : ByteArray := ⟨l.toArray⟩
/-- A byte as a row's cell. -/
def byteV (b : UInt8) : AV := .int .u8 (b.toNat : Int)
/-- All rows that a value leads to have numbers below n. -/
inductive AV.under (n : Nat) : AV → Prop
  | top : AV.under n .top
  | bool (b : Bool) : AV.under n (.bool b)
  | int (k : IntKind) (i : Int) : AV.under n (.int k i)
  | str (s : ByteArray) : AV.under n (.str s)
  | nilp : AV.under n .nilp
  | ptr (id gen off : Nat) : id < n → AV.under n (.ptr id gen off)
  | nils : AV.under n .nils
  | imm (sz : Nat) (xs : List AV) : (∀ x ∈ xs, ∀ c ∈ x.cells, AV.under n c) → AV.under n (.imm sz xs)
  | wr (id gen off len sz : Nat) : id < n → AV.under n (.wr id gen off len sz)
  | func (fn : Fn) (fs cs : List AV) : (∀ c ∈ fs, AV.under n c) → (∀ c ∈ cs, AV.under n c) → AV.under n (.func fn fs cs)
  | nilf : AV.under n .nilf
  | map (id : Nat) : id < n → AV.under n (.map id)
  | nilm : AV.under n .nilm
  | iface (t : TypeId) (y : AV) : AV.under n y → AV.under n (.iface t y)
  | nili : AV.under n .nili
  | agg (cs : List AV) : (∀ c ∈ cs, AV.under n c) → AV.under n (.agg cs)
  | tup (cs : List AV) : (∀ c ∈ cs, AV.under n c) → AV.under n (.tup cs)
  | rd (ys : List AV) : (∀ c ∈ ys, AV.under n c) → AV.under n (.rd ys)
  | emp : AV.under n .emp
def AObj.under (n : Nat) : AObj → Prop
  | .row _ _ cs => ∀ c ∈ cs, c.under n
  | .map es => ∀ e ∈ es, e.1.under n ∧ e.2.under n
def AHeap.within (H : AHeap) (n : Nat) : Prop := ∀ id o, id < n → H.get id = some o → o.under n
section
variable {P : Program} {g : Ghost} {w : World} {H : AHeap} {act : Act} {a : List AV}
theorem Rep.under {n : Nat} {v : Value} {y : AV} (hm : ∀ id gen b, g.m id gen = some b → id < n) (h : Rep g w v y) : y.under n := by
  have mem : ∀ {l : List AV}, (∀ (i : Nat) (c : AV), l[i]? = some c → c.under n) → ∀ c ∈ l, c.under n := by
    intro l hl c hc
    obtain ⟨i, hi⟩ := List.getElem?_of_mem hc
    exact hl i c hi
  have both : ∀ {vs : Array Value} {l : List AV}, vs.size = l.length → (∀ (i : Nat) (v : Value) (c : AV), vs[i]? = some v → l[i]? = some c → c.under n) → ∀ c ∈ l, c.under n := by
    intro vs l hl hh
    refine mem (fun i c hc => ?_)
    have hi : i < vs.size := by rw [hl]; exact (List.getElem?_eq_some_iff.1 hc).1
    exact hh i vs[i] c (Array.getElem?_eq_getElem hi) hc
  induction h with
  | ptr id gen off b hb => exact .ptr _ _ _ (hm _ _ _ hb)
  | imm sz xs b o n c u h1 h2 h3 h4 h5 h6 h7 ih =>
    refine .imm _ _ (fun x hx => ?_)
    obtain ⟨j, hj⟩ := List.getElem?_of_mem hx
    exact mem (fun i c hc => ih j x i c hj hc)
  | wr id gen off len sz b c e n h1 h2 h3 h4 h5 => exact .wr _ _ _ _ _ (hm _ _ _ h1)
  | func fn first caps fs cs h1 h2 h3 h4 ih1 ih2 => exact .func _ _ _ (both h1 ih1) (both h2 ih2)
  | map id b hb => exact .map _ (hm _ _ _ hb)
  | iface t v y h1 ih => exact .iface _ _ ih
  | agg vs ys h1 h2 ih => exact .agg _ (both h1 ih)
  | tup vs ys h1 h2 ih => exact .tup _ (both h1 ih)
  | rd b o ys u h1 h2 h3 ih => exact .rd _ (mem ih)
  | _ => constructor
/-- The ghost without rows from n on. -/
def Ghost.cut (g : Ghost) (n : Nat) : Ghost where
  m i k := if i < n then g.m i k else none
  Z := g.Z
theorem Rep.cut {n : Nat} {v : Value} {y : AV} (h : Rep g w v y) (hb : y.under n) : Rep (g.cut n) w v y := by
  have hm : ∀ {id gen b}, g.m id gen = some b → id < n → (g.cut n).m id gen = some b := by
    intro id gen b h1 h2
    simp only [Ghost.cut, if_pos h2]
    exact h1
  induction h with
  | top v => exact .top v
  | bool b => exact .bool b
  | int k n => exact .int k n
  | str s => exact .str s
  | nilp => exact .nilp
  | ptr id gen off b h1 => cases hb; exact .ptr _ _ _ _ (hm h1 (by assumption))
  | nils => exact .nils
  | imm sz xs b o n' c u h1 h2 h3 h4 h5 h6 h7 ih =>
    cases hb with
    | imm _ _ hx => exact .imm sz xs b o n' c u h1 h2 h3 h4 h5 h6 (fun j x i y hj hi => ih j x i y hj hi (hx x (List.mem_of_getElem? hj) y (List.mem_of_getElem? hi)))
  | wr id gen off len sz b c e n' h1 h2 h3 h4 h5 => cases hb; exact .wr id gen off len sz b c e n' (hm h1 (by assumption)) h2 h3 h4 h5
  | func fn first caps fs cs h1 h2 h3 h4 ih1 ih2 =>
    cases hb with
    | func _ _ _ hf hc => exact .func fn first caps fs cs h1 h2 (fun i v y hv hy => ih1 i v y hv hy (hf y (List.mem_of_getElem? hy))) (fun i v y hv hy => ih2 i v y hv hy (hc y (List.mem_of_getElem? hy)))
  | nilf => exact .nilf
  | map id b h1 => cases hb; exact .map id b (hm h1 (by assumption))
  | nilm => exact .nilm
  | iface t v y h1 ih => cases hb with | iface _ _ hy => exact .iface t v y (ih hy)
  | nili => exact .nili
  | agg vs ys h1 h2 ih => cases hb with | agg _ hc => exact .agg vs ys h1 (fun i v y hv hy => ih i v y hv hy (hc y (List.mem_of_getElem? hy)))
  | tup vs ys h1 h2 ih => cases hb with | tup _ hc => exact .tup vs ys h1 (fun i v y hv hy => ih i v y hv hy (hc y (List.mem_of_getElem? hy)))
  | rd b o ys u h1 h2 h3 ih => cases hb with | rd _ hc => exact .rd b o ys u h1 h2 (fun i y hy => ih i y hy (hc y (List.mem_of_getElem? hy)))
  | emp a c => exact .emp a c
theorem Sim.within (hS : Sim g w H) : H.within H.next := by
  intro id o hid ho
  have hm : ∀ id gen b, g.m id gen = some b → id < H.next := fun i k b hb => (hS.mlt i k b hb).1
  cases o with
  | row e gen cs =>
    obtain ⟨b, cur, lo, hi, h1, h2, h3, h4, h5⟩ := hS.live id _ ho
    intro c hc
    obtain ⟨i, hi'⟩ := List.getElem?_of_mem hc
    obtain ⟨u, hu, hr⟩ := h5 i c hi'
    exact hr.under hm
  | map es =>
    obtain ⟨b, ms, clock, h1, h2, h3, h4⟩ := hS.live id _ ho
    intro e he
    obtain ⟨i, hi'⟩ := List.getElem?_of_mem he
    have hil : i < ms.size := by rw [h3]; exact (List.getElem?_eq_some_iff.1 hi').1
    have := h4 i ms[i] e (Array.getElem?_eq_getElem hil) hi'
    exact ⟨this.1.under hm, this.2.under hm⟩
theorem Sim.trunc {n : Nat} (hS : Sim g w H) (hs : H.within n) : Sim (g.cut n) w (H.trunc n) := by
  have hmm : ∀ {id gen b}, (g.cut n).m id gen = some b → id < n ∧ g.m id gen = some b := by
    intro id gen b h
    simp only [Ghost.cut] at h
    split at h
    · exact ⟨by assumption, h⟩
    · cases h
  have hget : ∀ {id o}, (H.trunc n).get id = some o → id < n ∧ H.get id = some o := by
    intro id o h
    simp only [AHeap.trunc] at h
    split at h
    · exact ⟨by assumption, h⟩
    · cases h
  refine ⟨hS.zlt, fun id gen b hb => ?_, fun id o ho => ?_, fun id id' o o' b ho ho' hb hb' => hS.inj _ _ _ _ b (hget ho).2 (hget ho').2 (hmm hb).2 (hmm hb').2, fun id o b ho hb => hS.nz _ _ _ (hget ho).2 (hmm hb).2, fun id o gen b ho hb => hS.gen _ _ _ _ (hget ho).2 (hmm hb).2⟩
  · obtain ⟨h1, h2⟩ := hmm hb
    have := hS.mlt _ _ _ h2
    simp only [AHeap.trunc]
    omega
  · obtain ⟨h1, h2⟩ := hget ho
    have hbl := hs id o h1 h2
    have hr := hS.live id o h2
    cases o with
    | row e gen cs =>
      obtain ⟨b, cur, lo, hi, q1, q2, q3, q4, q5⟩ := hr
      refine ⟨b, cur, lo, hi, by simp only [Ghost.cut, if_pos h1]; exact q1, q2, q3, q4, fun i y hy => ?_⟩
      obtain ⟨u, hu, hrep⟩ := q5 i y hy
      exact ⟨u, hu, hrep.cut (hbl y (List.mem_of_getElem? hy))⟩
    | map es =>
      obtain ⟨b, ms, clock, q1, q2, q3, q4⟩ := hr
      refine ⟨b, ms, clock, by simp only [Ghost.cut, if_pos h1]; exact q1, q2, q3, fun i e x he hx => ?_⟩
      have := hbl x (List.mem_of_getElem? hx)
      exact ⟨(q4 i e x he hx).1.cut this.1, (q4 i e x he hx).2.cut this.2⟩
/-- At a function's end: rows are shut, and those of its own are forgotten that nothing leads to. -/
def ARet (n : Nat) (K : AV → AHeap → Prop) (y : AV) (H : AHeap) : Prop := ∃ H1 y1 m, Shut H y H1 y1 ∧ n ≤ m ∧ y1.under m ∧ H1.within m ∧ K y1 (H1.trunc m)
inductive RV where
  | tmp (t : Nat)
  | cell (t : Nat) (agg : Bool) (n : Nat)
def ares1 (H : AHeap) (a : List AV) : RV → Option AV
  | .tmp t => some (a.getD t .top)
  | .cell t ag n => aload H ag n (a.getD t .top)
def aresL (H : AHeap) (a : List AV) : List RV → Option (List AV)
  | [] => some []
  | r :: l => match ares1 H a r, aresL H a l with
    | some y, some ys => some (y :: ys)
    | _, _ => none
def ares (H : AHeap) (a : List AV) (l : List RV) : Option AV := match aresL H a l with
  | some [y] => some y
  | some ys => some (.tup ys)
  | none => none
def trRes (P : Program) : List ResultVar → Option (List RV)
  | [] => some []
  | .tmp t :: l => (trRes P l).map (.tmp t :: ·)
  | .cell t ty :: l => match tAgg P ty, tSize P ty, trRes P l with
    | some ag, some n, some r => some (.cell t ag n :: r)
    | _, _, _ => none
theorem eval_tmp (hR : RepAct g w act a) (t : Nat) : Rep g w (act.tmps.getD t undef) (a.getD t .top) := trX_rep (x := .tmp t) (x' := .tmp t) hR rfl
def resOne (tmps : Array Value) : ResultVar → Sem Value
  | .tmp t => pure (tmps.getD t undef)
  | .cell c t => do loadVar t (← asAddr (tmps.getD c undef))
theorem results_is (fn : Func) (tmps : Array Value) : results fn tmps = (do
    let vs ← fn.results.mapM (resOne tmps)
    pure (if h : vs.size = 1 then vs[0] else .tuple vs)) := rfl
theorem run_results (hS : Sim g w H) (hR : RepAct g w act a) {fn : Func} {rs : List RV} {y : AV} (h : trRes P fn.results.toList = some rs) (hy : ares H a rs = some y) : ∃ v, (results fn act.tmps).run P w = .ok v w ∧ Rep g w v y := by
  have key : ∀ (l : List ResultVar) (rs : List RV) (ys : List AV), trRes P l = some rs → aresL H a rs = some ys → ∃ vs : List Value, (l.mapM (fun (r : ResultVar) => resOne act.tmps r)).run P w = .ok vs w ∧ Reps g w vs.toArray ys := by
    intro l
    induction l with
    | nil =>
      intro rs ys h1 h2
      obtain rfl := Option.some.inj h1
      obtain rfl := Option.some.inj h2
      exact ⟨[], by simp, rfl, fun i v y h => by simp at h⟩
    | cons r l ih =>
      intro rs ys h1 h2
      have fin : ∀ {v : Value} {z : AV} {vs : List Value} {zs : List AV}, Rep g w v z → Reps g w vs.toArray zs → Reps g w (v :: vs).toArray (z :: zs) := by
        intro v z vs zs h3 h4
        refine ⟨by simpa using h4.1, fun i u x hu hx => ?_⟩
        cases i with
        | zero => simp at hu hx; subst hu; subst hx; exact h3
        | succ i => exact h4.2 i u x (by simpa using hu) (by simpa using hx)
      cases r with
      | tmp t =>
        simp only [trRes] at h1
        obtain ⟨r1, hr1, rfl⟩ := Option.map_eq_some_iff.1 h1
        simp only [aresL, ares1] at h2
        split at h2 <;> (try (cases h2; done))
        rename_i z zs hz hzs
        obtain rfl := Option.some.inj h2
        obtain rfl := Option.some.inj hz
        obtain ⟨vs, h3, h4⟩ := ih _ _ hr1 hzs
        refine ⟨_ :: vs, ?_, fin (eval_tmp hR t) h4⟩
        have hu3 : (resOne act.tmps (.tmp t)).run P w = .ok (act.tmps.getD t undef) w := rfl
        simp only [List.mapM_cons, Sem.run_bind, Sem.run_pure, Result.andThen_ok, hu3, h3]
      | cell t ty =>
        simp only [trRes] at h1
        split at h1 <;> (try (cases h1; done))
        rename_i ag n r1 ha hn hr1
        obtain rfl := Option.some.inj h1
        simp only [aresL, ares1] at h2
        split at h2 <;> (try (cases h2; done))
        rename_i z zs hz hzs
        obtain rfl := Option.some.inj h2
        obtain ⟨vs, h3, h4⟩ := ih _ _ hr1 hzs
        obtain ⟨u, hu, hrep⟩ := run_aload (P := P) hS ha hn (eval_tmp hR t) hz
        have hu2 : (do loadVar ty (← asAddr (act.tmps.getD t undef)) : Sem Value).run P w = .ok u w := by
          have hp : ∃ ad, act.tmps.getD t undef = .pointer (some ad) := by
            have hr := eval_tmp hR t
            unfold aload at hz
            split at hz
            · rename_i hq; rw [hq] at hr; obtain ⟨b, hb, _⟩ := hr.ptr_inv; exact ⟨_, hb⟩
            · rename_i hq; rw [hq] at hr; obtain ⟨b, o, u, hb, _⟩ := hr.rd_inv; exact ⟨_, hb⟩
            · cases hz
          obtain ⟨ad, had⟩ := hp
          rw [had] at hu ⊢
          simpa [Instr.loadAt, Instr.sureAddr, asAddr] using hu
        refine ⟨u :: vs, ?_, fin hrep h4⟩
        have hu3 : (resOne act.tmps (.cell t ty)).run P w = .ok u w := hu2
        simp only [List.mapM_cons, Sem.run_bind, Sem.run_pure, Result.andThen_ok]
        rw [hu3]
        simp only [Result.andThen_ok, h3]
  unfold ares at hy
  have run : ∀ (vs : List Value), (fn.results.toList.mapM (fun (r : ResultVar) => resOne act.tmps r)).run P w = .ok vs w → (results fn act.tmps).run P w = .ok (if h : vs.toArray.size = 1 then vs.toArray[0] else .tuple vs.toArray) w := by
    intro vs hvs
    rw [results_is, Array.mapM_eq_mapM_toList]
    simp only [Sem.run_bind, Sem.run_map]
    rw [hvs]
    rfl
  cases hl : aresL H a rs with
  | none => rw [hl] at hy; cases hy
  | some ys =>
    obtain ⟨vs, h1, h2⟩ := key _ _ _ h hl
    have h3 := run vs h1
    have hlen : vs.length = ys.length := by simpa using h2.1
    rw [hl] at hy
    by_cases h1' : ys.length = 1
    · match ys, h1' with
      | [z], _ =>
        simp only at hy
        obtain rfl := Option.some.inj hy
        match vs, hlen with
        | [v], _ =>
          refine ⟨v, by rw [h3]; rfl, h2.2 0 v z (by simp) (by simp)⟩
    · refine ⟨.tuple vs.toArray, ?_, ?_⟩
      · rw [h3, dif_neg (by simp; omega)]
      · have : y = .tup ys := by
          match ys, h1' with
          | [], _ => exact (Option.some.inj hy).symm
          | [z], h => simp at h
          | z :: z2 :: zs, _ => exact (Option.some.inj hy).symm
        subst this
        exact .tup _ _ h2.1 h2.2
/-! ### code -/
def stopC : ACode := .region [⟨none, .s .stop, none⟩]
/-- Code of a kind that is not told of is not to be reached. -/
def trC (P : Program) (W : List Nat) : Code → ACode
  | .skip => .skip
  | .region _ ops draw => match (match draw with | true => trDraw P W ops | false => trOpers P W ops ops.toList) with
    | some al => .region al
    | none => match draw, trDraw2 P W ops with
      | true, some al => .regionN (((allAS P ops).map fun p => p.d + 1).foldl max 0) al
      | _, _ => stopC
  | .seq x y => .seq (trC P W x) (trC P W y)
  | .cond c x y => match trX c with
    | some c => .cond c (trC P W x) (trC P W y)
    | none => stopC
  | .block id c => .block id (trC P W c)
  | .loop c => .loop (trC P W c)
  | .exit id => .exit id
  | .scope c => trC P W c
  | .label _ => .skip
  | .ret => .ret
  | _ => stopC
def exOf : AExit → Exit
  | .normal => .normal
  | .exit id => .exit id
  | .ret => .ret
/-- What holds behind code, told of the machine. -/
def Covers (g : Ghost) (w : World) (Q : AExit → List AV → AHeap → Prop) (Qc : Exit → Act → World → Prop) : Prop :=
  ∀ e a' H' g' w' act', Q e a' H' → Ext g w g' w' → Sim g' w' H' → RepAct g' w' act' a' → Qc (exOf e) act' w'
theorem Forget.rep {a' : List AV} (h : Forget a a') (hR : RepAct g w act a) : RepAct g w act a' := by
  refine ⟨hR.defers, by rw [hR.size]; exact h.1, fun i v z hv hz => ?_⟩
  have hi : i < a.length := by rw [← hR.size]; exact (Array.getElem?_eq_some_iff.1 hv).1
  rcases h.2 i a[i] z (List.getElem?_eq_getElem hi) hz with rfl | rfl
  · exact hR.rep i v _ hv (List.getElem?_eq_getElem hi)
  · exact .top _
theorem Covers.ext {g' : Ghost} {w' : World} {Q : AExit → List AV → AHeap → Prop} {Qc : Exit → Act → World → Prop} (h : Covers g w Q Qc) (hE : Ext g w g' w') : Covers g' w' Q Qc :=
  fun e a2 H2 g2 w2 act2 q hE2 => h e a2 H2 g2 w2 act2 q (hE.trans hE2)
theorem stop_wp {C : (Nat → List AV → AHeap → (AV → AHeap → Prop) → Prop)} {Q : AExit → List AV → AHeap → Prop} (h : awp C stopC Q a H) : False := h
theorem awp_sound {W : List Nat} (hm : P.follows .mixedOrders = true) : ∀ (c : Code) (Q : AExit → List AV → AHeap → Prop) (Qc : Exit → Act → World → Prop) (g : Ghost) (w : World) (H : AHeap) (act : Act) (a : List AV),
    Sim g w H → RepAct g w act a → awp (ACalls P) (trC P W c) Q a H → Covers g w Q Qc → c.wp P Qc act w := by
  intro c
  induction c with
  | skip =>
    intro Q Qc g w H act a hS hR hk hC
    exact wp_skip (hC .normal a H g w act hk (Ext.refl _ _) hS hR)
  | region id ops draw =>
    intro Q Qc g w H act a hS hR hk hC
    simp only [trC] at hk
    split at hk
    rotate_left
    · split at hk <;> (try (exact (stop_wp hk).elim))
      rename_i _ al hal _
      exact draw_sound2 hm hal hk.1 hS hR hk.2 (fun a' H' g' w' act' q hE hS' hR' => hC .normal a' H' g' w' act' q hE hS' hR')
    rename_i al hal
    have hn : ∀ a' H' g' w' act', Q .normal a' H' → Ext g w g' w' → Sim g' w' H' → RepAct g' w' act' a' → Qc .normal act' w' := fun a' H' g' w' act' q hE hS' hR' => hC .normal a' H' g' w' act' q hE hS' hR'
    cases draw with
    | true => exact draw_sound hm hal hS hR hk hn
    | false =>
      simp only at hal
      obtain ⟨hl, hget⟩ := trOpers_get _ _ hal
      have := aops_sound (P := P) (ops := ops) (Qc := Qc) al 0 g w H act a (fun i ao hi => by
        have hlt : i < ops.toList.length := by rw [hl]; exact (List.getElem?_eq_some_iff.1 hi).1
        obtain ⟨ao', h1, h2⟩ := hget i ops.toList[i] (List.getElem?_eq_getElem hlt)
        rw [hi] at h1
        obtain rfl := Option.some.inj h1
        refine ⟨ops.toList[i], ?_, h2⟩
        rw [Nat.zero_add]
        simp) hS hR hk hn
      refine wp_region ?_
      rw [show ops.size = al.length by rw [← hl]; simp, List.range_eq_range']
      exact this
  | seq x y ihx ihy =>
    intro Q Qc g w H act a hS hR hk hC
    refine wp_seq (ihx _ _ g w H act a hS hR hk (fun e a' H' g' w' act' q hE hS' hR' => ?_))
    cases e with
    | normal => exact ihy Q Qc g' w' H' act' a' hS' hR' q (hC.ext hE)
    | exit i => exact hC (.exit i) a' H' g' w' act' q hE hS' hR'
    | ret => exact hC .ret a' H' g' w' act' q hE hS' hR'
  | cond c x y ihx ihy =>
    intro Q Qc g w H act a hS hR hk hC
    simp only [trC] at hk
    split at hk <;> (try (exact (stop_wp hk).elim))
    rename_i c' hc
    simp only [awp] at hk
    split at hk <;> (try (exact hk.elim))
    rename_i b hb
    have hr := trX_rep hR hc
    rw [hb] at hr
    refine wp_cond (t := b) (bool_inv hr) ?_
    cases b with
    | true => rw [if_pos rfl] at hk ⊢; exact ihx Q Qc g w H act a hS hR hk hC
    | false => rw [if_neg (by simp)] at hk ⊢; exact ihy Q Qc g w H act a hS hR hk hC
  | block id c ih =>
    intro Q Qc g w H act a hS hR hk hC
    refine wp_block (ih _ _ g w H act a hS hR hk (fun e a' H' g' w' act' q hE hS' hR' => ?_))
    cases e with
    | normal => exact hC .normal a' H' g' w' act' q hE hS' hR'
    | exit i =>
      simp only at q
      show (if i = id then _ else _)
      by_cases hi : i = id
      · rw [if_pos hi] at q ⊢; exact hC .normal a' H' g' w' act' q hE hS' hR'
      · rw [if_neg hi] at q ⊢; exact hC (.exit i) a' H' g' w' act' q hE hS' hR'
    | ret => exact hC .ret a' H' g' w' act' q hE hS' hR'
  | loop c ih =>
    intro Q Qc g w H act a hS hR hk hC
    obtain ⟨I, μ, ⟨a2, hf, hi⟩, hround⟩ := hk
    refine wp_loop_ghost (fun n act' w' => ∃ g' a' H', Ext g w g' w' ∧ Sim g' w' H' ∧ RepAct g' w' act' a' ∧ I a' H' ∧ μ a' H' = n) (μ a2 H) ⟨g, a2, H, Ext.refl _ _, hS, hf.rep hR, hi, rfl⟩ ?_
    rintro n act1 w1 ⟨g1, a1, H1, hE1, hS1, hR1, hI1, hn1⟩
    refine ih _ _ g1 w1 H1 act1 a1 hS1 hR1 (hround a1 H1 hI1) (fun e a' H' g' w' act' q hE hS' hR' => ?_)
    cases e with
    | normal =>
      obtain ⟨a3, hf3, hi3, hm3⟩ := q
      exact ⟨_, hn1 ▸ hm3, g', a3, H', hE1.trans hE, hS', hf3.rep hR', hi3, rfl⟩
    | exit i => exact hC (.exit i) a' H' g' w' act' q (hE1.trans hE) hS' hR'
    | ret => exact hC .ret a' H' g' w' act' q (hE1.trans hE) hS' hR'
  | exit id =>
    intro Q Qc g w H act a hS hR hk hC
    exact wp_exit (hC (.exit id) a H g w act hk (Ext.refl _ _) hS hR)
  | scope c ih =>
    intro Q Qc g w H act a hS hR hk hC
    refine wp_scope_straight (ih Q _ g w H act a hS hR hk (fun e a' H' g' w' act' q hE hS' hR' => ?_))
    cases e with
    | normal => exact hC .normal a' H' g' w' act' q hE hS' hR'
    | exit i => exact hC (.exit i) a' H' g' w' act' q hE hS' hR'
    | ret => exact hC .ret a' H' g' w' act' q hE hS' hR'
  | label l =>
    intro Q Qc g w H act a hS hR hk hC
    exact wp_label (hC .normal a H g w act hk (Ext.refl _ _) hS hR)
  | ret =>
    intro Q Qc g w H act a hS hR hk hC
    exact wp_ret (hC .ret a H g w act hk (Ext.refl _ _) hS hR)
  | _ => intro Q Qc g w H act a hS hR hk; exact (stop_wp hk).elim
/-- What a function's end hands to its caller. -/
def APost (n : Nat) (rs : List RV) (K : AV → AHeap → Prop) : AExit → List AV → AHeap → Prop
  | .normal, a, H | .ret, a, H => ∃ y, ares H a rs = some y ∧ ARet n K y H
  | .exit _, _, _ => False
/-- A function's code told: so it answers. -/
structure Told (P : Program) (f : Nat) (n : Nat) (ac : ACode) (rs : List RV) : Prop where
  tell : ∃ fn c W, P.funcs[f]? = some fn ∧ fn.body = some c ∧ (fn.name == "runtime.NumGoroutine") = false ∧ fn.ntmps = n ∧ trC P W c = ac ∧ trRes P fn.results.toList = some rs
theorem acalls_of (hm : P.follows .mixedOrders = true) {f n : Nat} {ac : ACode} {rs : List RV} (hT : Told P f n ac rs) {args : List AV} {K : AV → AHeap → Prop}
    (h : H.within H.next → (∀ y ∈ args, y.under H.next) → awp (ACalls P) ac (APost H.next rs K) (args ++ List.replicate (n - args.length) .top) H) : ACalls P f args H K := by
  obtain ⟨fn, c, W, hf, hb, hname, hn, hc, hrs⟩ := hT.tell
  intro g w vs hS hR o act next Qc hnext
  have hrun : (callFunc f vs).run P w = .ok (.enter f vs) w := by
    simp only [callFunc, Sem.run_bind, run_program, Result.andThen_ok, hf, hname, hb, Option.isNone_some, Bool.false_eq_true, if_false, Sem.run_pure]
  rw [hrun, Oper.upon_enter]
  have hsc : H.within H.next := hS.within
  have hm1 : ∀ id gen b, g.m id gen = some b → id < H.next := fun i k b hb => (hS.mlt i k b hb).1
  have hargs : ∀ y ∈ args, y.under H.next := by
    intro y hy
    obtain ⟨i, hi⟩ := List.getElem?_of_mem hy
    have hlt : i < vs.size := by rw [hR.1]; exact (List.getElem?_eq_some_iff.1 hi).1
    exact (hR.2 i vs[i] y (Array.getElem?_eq_getElem hlt) hi).under hm1
  have hR0 : RepAct g w { tmps := vs ++ Array.replicate (fn.ntmps - vs.size) undef, defers := [] } (args ++ List.replicate (n - args.length) .top) := by
    refine ⟨rfl, by simp [hR.1, hn], fun i v y hv hy => ?_⟩
    by_cases hi : i < args.length
    · rw [List.getElem?_append_left hi] at hy
      rw [Array.getElem?_append_left (by rw [hR.1]; exact hi)] at hv
      exact hR.2 i v y hv hy
    · rw [List.getElem?_append_right (by omega), List.getElem?_replicate] at hy
      split at hy
      · obtain rfl := Option.some.inj hy; exact .top _
      · cases hy
  subst hc
  refine calls_of_wp hf hb (awp_sound hm c _ _ g w H _ _ hS hR0 (h hsc hargs) (fun e a' H' g' w' act' q hE hS' hR' => ?_))
  have fin : ∀ y, ares H' a' rs = some y → ARet H.next K y H' → act'.defers = [] ∧ ∃ v, (results fn act'.tmps).run P w' = .ok v w' ∧ next (act.put o.dst v) w' := by
    intro y hy hret
    obtain ⟨v, hv, hrep⟩ := run_results (P := P) hS' hR' hrs hy
    obtain ⟨H1, y1, m, h1, h2, h3, h4, h5⟩ := hret
    obtain ⟨g1, hE1, hS1, hr1⟩ := h1.sound hS' hrep
    have hcut := hS1.trunc h4
    refine ⟨hR'.defers, v, hv, hnext y1 _ (g1.cut m) w' v h5 ?_ hcut (hr1.cut h3)⟩
    have hE2 := hE.trans hE1
    refine ⟨fun id gen b hb => ?_, hE2.z, hE2.same, hE2.shape, hE2.size, hE2.os, hE2.tape, hE2.output, fun b hb q => hE2.known b hb (by
      rcases q with q | ⟨i, j, q⟩
      · exact .inl q
      · simp only [Ghost.cut] at q
        split at q
        · exact .inr ⟨i, j, q⟩
        · cases q), hE2.other⟩
    have := hm1 _ _ _ hb
    simp only [Ghost.cut]
    rw [if_pos (by omega)]
    exact hE2.m _ _ _ hb
  cases e with
  | normal => obtain ⟨y, h1, h2⟩ := q; exact fin y h1 h2
  | ret => obtain ⟨y, h1, h2⟩ := q; exact fin y h1 h2
  | exit i => exact q.elim
end
end Go.Proofs.Ytblflecalomgfaa.AL
