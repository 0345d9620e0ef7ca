/- Written by a program (xprint.py, which runs the print with contracts given by hand) for this claim: Go functions as Lean functions, each with its contract. Lean checks it. -/
import Derived.Test.YthpgppamdejjhaaX0
import Derived.Test.YthpgppamdejjhaaX4
namespace Go.Proofs.Ythpgppamdejjhaa.X
open Go.RowKit Go.Proofs.YthpgppamdejjhaaW.PrintWords Go.Proofs.YthpgppamdejjhaaW.PrintLast Go.Proofs.YthpgppamdejjhaaW.PrintMore
attribute [local go_sem] max2_int min2_int max_two min_two max_three min_three max_four min_four   -- for this text's walks alone
set_option linter.unusedVariables false
set_option linter.unusedSimpArgs false

/-! ### head_Read: function 28 -/
def head_Read.j0 : Nat → ByteArray → Bool → Int → Int → Int → Int → Int → Int → Int → Option (Int × Int × Int × Int × Int × Int × Int × Int)
  | 0, _, _, _, _, _, _, _, _, _ => none
  | k + 1, x0, x41, x186000, x186001, x186002, x186003, x186004, x186005, x186006 => if x41 = true then (some (0, 0, 0, 0, 0, 0, 0, 6)) else (if x186000 > 16384 then (some (0, 0, 0, 0, 0, 0, 0, 7)) else ((head_may.f x186000 x186001 x186002 x186003 x186004 x186005 x186006).bind fun t189 => (if t189 = true then (if (x0.size : Int) < x186000 then (some (0, 0, 0, 0, 0, 0, 0, 14)) else (some (x186000, x186001, x186002, x186003, x186004, x186005, x186006, 0))) else (some (0, 0, 0, 0, 0, 0, 0, 6)))))
def head_Read.f (k : Nat) (a0 : ByteArray) : Option (Int × Int × Int × Int × Int × Int × Int × Int) := if (a0.size : Int) < 40 then (some (0, 0, 0, 0, 0, 0, 0, 14)) else (if 0 ≤ 40 then (if 40 ≤ (a0.size : Int) then ((num_FromBigs.f k (a0.extract 0 40)).bind fun bt174 => (if 1 < (bt174.1.length : Int) then (if 2 < (bt174.1.length : Int) then (if 3 < (bt174.1.length : Int) then (if 4 < (bt174.1.length : Int) then (if 7 < (bt174.1.length : Int) then (if 8 < (bt174.1.length : Int) then (if 9 < (bt174.1.length : Int) then (if 0 < (bt174.1.length : Int) then (if (rd bt174.1 0) = 3490578157 then (if 5 < (bt174.1.length : Int) then (if (rd bt174.1 5) < 17 then (head_Read.j0 k a0 true (rd bt174.1 1) (rd bt174.1 2) (rd bt174.1 3) (rd bt174.1 4) (rd bt174.1 7) (rd bt174.1 8) (rd bt174.1 9)) else (if 6 < (bt174.1.length : Int) then (head_Read.j0 k a0 (decide ((rd bt174.1 6) > 17)) (rd bt174.1 1) (rd bt174.1 2) (rd bt174.1 3) (rd bt174.1 4) (rd bt174.1 7) (rd bt174.1 8) (rd bt174.1 9)) else (none))) else (none)) else (head_Read.j0 k a0 true (rd bt174.1 1) (rd bt174.1 2) (rd bt174.1 3) (rd bt174.1 4) (rd bt174.1 7) (rd bt174.1 8) (rd bt174.1 9))) else (none)) else (none)) else (none)) else (none)) else (none)) else (none)) else (none)) else (none))) else (none)) else (none))
theorem head_Read.mono_l : ∀ k, (∀ y0 y1 y2 y3 y4 y5 y6 y7 y8, LeO (head_Read.j0 k y0 y1 y2 y3 y4 y5 y6 y7 y8) (head_Read.j0 (k + 1) y0 y1 y2 y3 y4 y5 y6 y7 y8))
  | 0 => fun _ _ _ _ _ _ _ _ _ r h => by simp [head_Read.j0] at h
  | k + 1 => by
    have ih0 := head_Read.mono_l k
    · intro y0 y1 y2 y3 y4 y5 y6 y7 y8
      unfold head_Read.j0
      repeat' first
      | (with_reducible exact ih0 _ _ _ _ _ _ _ _ _)
      | (with_reducible exact num_FromBigs.mono _ _)
      | (with_reducible exact LeO.refl _)
      | (with_reducible exact LeO.none _)
      | (with_reducible refine LeO.ite ?_ ?_)
      | (with_reducible refine LeO.bind ?_ (fun _ => ?_))
      | exact ih0 _ _ _ _ _ _ _ _ _
      | exact num_FromBigs.mono _ _
      | exact LeO.none _
      | refine LeO.ite ?_ ?_
      | refine LeO.bind ?_ (fun _ => ?_)
theorem head_Read.mono : ∀ a0 k, LeO (head_Read.f k a0) (head_Read.f (k + 1) a0) := by
  intro a0 k
  have ih0 := head_Read.mono_l k
  unfold head_Read.f
  repeat' first
      | (with_reducible exact ih0 _ _ _ _ _ _ _ _ _)
      | (with_reducible exact num_FromBigs.mono _ _)
      | (with_reducible exact LeO.refl _)
      | (with_reducible exact LeO.none _)
      | (with_reducible refine LeO.ite ?_ ?_)
      | (with_reducible refine LeO.bind ?_ (fun _ => ?_))
      | exact ih0 _ _ _ _ _ _ _ _ _
      | exact num_FromBigs.mono _ _
      | exact LeO.none _
      | refine LeO.ite ?_ ?_
      | refine LeO.bind ?_ (fun _ => ?_)
def head_Read.T4 : Bool × List (List Nat × List Nat) := (true, [([], []), ([0], [0]), ([1], [1]), ([], []), ([3], [3]), ([4], [4]), ([], []), ([6], [6]), ([7], [7]), ([], []), ([9], [9]), ([10], [10]), ([], []), ([12], [12]), ([13], [13]), ([], []), ([15], [15]), ([16], [16]), ([], []), ([18], [18]), ([19], [19]), ([2, 5, 8, 11, 14, 17, 20], [2, 5, 8, 11, 14, 17, 20]), ([], []), ([22, 21, 0, 1, 2, 3, 4, 5, 6, 7, 8, 9, 10, 11, 12, 13, 14, 15, 16, 17, 18, 19, 20, 21, 22], [21, 22])])
def head_Read.B4 : List Nat := [0, 1, 3, 0, 8, 24, 0, 64, 192, 0, 512, 1536, 0, 4096, 12288, 0, 32768, 98304, 0, 262144, 786432, 2097151, 0, 8388607]
theorem head_Read.tab4 : rtab .any (opsOf Try.f28 4) = head_Read.T4 := by kernel_rfl
theorem head_Read.bits4 : waitsOk head_Read.T4.2 head_Read.B4 = true := by kernel_rfl
set_option maxHeartbeats 8000000 in
set_option maxRecDepth 100000 in
theorem head_Read.calls (k : Nat) (a0 : ByteArray) (r1 : Int) (r2 : Int) (r3 : Int) (r4 : Int) (r5 : Int) (r6 : Int) (r7 : Int) (r8 : Int) (w : World) (h : head_Read.f k a0 = some (r1, r2, r3, r4, r5, r6, r7, r8)) :
    Calls Try.prog 28 #[.string a0] w fun e w' => e = .returned (.tuple #[.agg #[.int .i64 r1, .int .i64 r2, .int .i64 r3, .int .i64 r4, .int .i64 r5, .int .i64 r6, .int .i64 r7], .int .i64 r8]) ∧ Below w.heap.size w w' := by
  have hu34 := Try.underlying34
  have HB := Aside0.mk (Below.refl w.heap.size w)
  have H : (if (a0.size : Int) < 40 then (some (0, 0, 0, 0, 0, 0, 0, 14)) else (if 0 ≤ 40 then (if 40 ≤ (a0.size : Int) then ((num_FromBigs.f k (a0.extract 0 40)).bind fun bt174 => (if 1 < (bt174.1.length : Int) then (if 2 < (bt174.1.length : Int) then (if 3 < (bt174.1.length : Int) then (if 4 < (bt174.1.length : Int) then (if 7 < (bt174.1.length : Int) then (if 8 < (bt174.1.length : Int) then (if 9 < (bt174.1.length : Int) then (if 0 < (bt174.1.length : Int) then (if (rd bt174.1 0) = 3490578157 then (if 5 < (bt174.1.length : Int) then (if (rd bt174.1 5) < 17 then (head_Read.j0 k a0 true (rd bt174.1 1) (rd bt174.1 2) (rd bt174.1 3) (rd bt174.1 4) (rd bt174.1 7) (rd bt174.1 8) (rd bt174.1 9)) else (if 6 < (bt174.1.length : Int) then (head_Read.j0 k a0 (decide ((rd bt174.1 6) > 17)) (rd bt174.1 1) (rd bt174.1 2) (rd bt174.1 3) (rd bt174.1 4) (rd bt174.1 7) (rd bt174.1 8) (rd bt174.1 9)) else (none))) else (none)) else (head_Read.j0 k a0 true (rd bt174.1 1) (rd bt174.1 2) (rd bt174.1 3) (rd bt174.1 4) (rd bt174.1 7) (rd bt174.1 8) (rd bt174.1 9))) else (none)) else (none)) else (none)) else (none)) else (none)) else (none)) else (none)) else (none))) else (none)) else (none))) = some (r1, r2, r3, r4, r5, r6, r7, r8) := h
  clear h
  by_cases c2 : (a0.size : Int) < 40
  · rw [if_pos c2] at H
    have c2b0 : decide ((a0.size : Int) < 40) = true := decide_eq_true c2
    have c2b1 : decide (a0.size < 40) = true := decide_eq_true (by omega)
    clear c2
    simp only [Option.some.injEq, Prod.mk.injEq] at H
    obtain ⟨rfl, rfl, rfl, rfl, rfl, rfl, rfl, rfl⟩ := H
    go_enter Try.func28, Try.ntmps28
    go_wp2_with (first | ((with_reducible refine gate_dst (N := 2) rfl ?_); refine box_event ?hg (N := 2) ?hd (cs := #[.int .i64 0, .int .i64 0, .int .i64 0, .int .i64 0, .int .i64 0, .int .i64 0, .int .i64 0]) (t := 34) ?hr ?_; (case hd => rfl); (case hg => rfl); (case hr => first | (go_simp; done) | (go_simp; rfl)); intro gb173 hg w3 hbox hb; have n0_ := Aside0.mk (below_step (by repeat (first | (with_reducible first | exact HB.out | apply below_alloc | apply pw_below_drewN | apply below_drew1) | exact HB.out)) hb); have n1_ := Aside0.mk (hbox); have n2_ := Aside0.mk ((by rw [hg]; exact (below_size (by repeat (first | (with_reducible first | exact HB.out | apply below_alloc | apply pw_below_drewN | apply below_drew1) | exact HB.out))) : w.heap.size ≤ gb173)); have n3_ := Aside0.mk ((by rw [hg]; exact (below_size (by repeat (first | (with_reducible first | exact HB.out | apply below_alloc | apply pw_below_drewN | apply below_drew1) | exact HB.out))) : w.heap.size ≤ gb173)); clear HB; have HB := n0_; have BK173 := n1_; have GW173 := n2_; have GE173 := n3_; clear n0_ n1_ n2_ n3_; clear hb hbox hg; have hcz4_0 : w3.cell? ⟨gb173, 0, none⟩ = some (.int .i64 0) := (blk_cell BK173.out 0).trans rfl; have hcz4_1 : w3.cell? ⟨gb173, 1, none⟩ = some (.int .i64 0) := (blk_cell BK173.out 1).trans rfl; have hcz4_2 : w3.cell? ⟨gb173, 2, none⟩ = some (.int .i64 0) := (blk_cell BK173.out 2).trans rfl; have hcz4_3 : w3.cell? ⟨gb173, 3, none⟩ = some (.int .i64 0) := (blk_cell BK173.out 3).trans rfl; have hcz4_4 : w3.cell? ⟨gb173, 4, none⟩ = some (.int .i64 0) := (blk_cell BK173.out 4).trans rfl; have hcz4_5 : w3.cell? ⟨gb173, 5, none⟩ = some (.int .i64 0) := (blk_cell BK173.out 5).trans rfl; have hcz4_6 : w3.cell? ⟨gb173, 6, none⟩ = some (.int .i64 0) := (blk_cell BK173.out 6).trans rfl; have hfz4_0 := blk_frozen BK173.out 0; have hfz4_1 := blk_frozen BK173.out 1; have hfz4_2 := blk_frozen BK173.out 2; have hfz4_3 := blk_frozen BK173.out 3; have hfz4_4 := blk_frozen BK173.out 4; have hfz4_5 := blk_frozen BK173.out 5; have hfz4_6 := blk_frozen BK173.out 6))
    refine bodyPost_ret (results_ct rfl _ _ gb173 34 #[.int .i64 0, .int .i64 0, .int .i64 0, .int .i64 0, .int .i64 0, .int .i64 0, .int .i64 0] (0, 0) _ rfl (by (with_reducible repeat (first | refine blk_drewN ?_ _ | refine blk_drew ?_ | refine blk_alloc ?_ _)); refine blk_put (cs := #[.int .i64 0, .int .i64 0, .int .i64 0, .int .i64 0, .int .i64 0, .int .i64 0, .int .i64 0]) ?_ 6 _ rfl; (with_reducible repeat (first | refine blk_drewN ?_ _ | refine blk_drew ?_ | refine blk_alloc ?_ _)); refine blk_put (cs := #[.int .i64 0, .int .i64 0, .int .i64 0, .int .i64 0, .int .i64 0, .int .i64 0, .int .i64 0]) ?_ 5 _ rfl; (with_reducible repeat (first | refine blk_drewN ?_ _ | refine blk_drew ?_ | refine blk_alloc ?_ _)); refine blk_put (cs := #[.int .i64 0, .int .i64 0, .int .i64 0, .int .i64 0, .int .i64 0, .int .i64 0, .int .i64 0]) ?_ 4 _ rfl; (with_reducible repeat (first | refine blk_drewN ?_ _ | refine blk_drew ?_ | refine blk_alloc ?_ _)); refine blk_put (cs := #[.int .i64 0, .int .i64 0, .int .i64 0, .int .i64 0, .int .i64 0, .int .i64 0, .int .i64 0]) ?_ 3 _ rfl; (with_reducible repeat (first | refine blk_drewN ?_ _ | refine blk_drew ?_ | refine blk_alloc ?_ _)); refine blk_put (cs := #[.int .i64 0, .int .i64 0, .int .i64 0, .int .i64 0, .int .i64 0, .int .i64 0, .int .i64 0]) ?_ 2 _ rfl; (with_reducible repeat (first | refine blk_drewN ?_ _ | refine blk_drew ?_ | refine blk_alloc ?_ _)); refine blk_put (cs := #[.int .i64 0, .int .i64 0, .int .i64 0, .int .i64 0, .int .i64 0, .int .i64 0, .int .i64 0]) ?_ 1 _ rfl; (with_reducible repeat (first | refine blk_drewN ?_ _ | refine blk_drew ?_ | refine blk_alloc ?_ _)); refine blk_put (cs := #[.int .i64 0, .int .i64 0, .int .i64 0, .int .i64 0, .int .i64 0, .int .i64 0, .int .i64 0]) ?_ 0 _ rfl; (with_reducible repeat (first | refine blk_drewN ?_ _ | refine blk_drew ?_ | refine blk_alloc ?_ _)); exact BK173.out) Try.underlying34 rfl (by kernel_rfl)) rfl ?_
    exact ⟨by first | rfl | (simp [errW_none, errW_some] <;> rfl) | (simp [*, errW_none, errW_some] <;> rfl), by repeat (first | (with_reducible first | exact HB.out | apply below_alloc | apply pw_below_drewN | apply below_drew1 | refine below_set ?_ GE173.out) | exact HB.out)⟩
  · rw [if_neg c2] at H
    have c2b0 : decide ((a0.size : Int) < 40) = false := decide_eq_false c2
    have c2b1 : decide (a0.size < 40) = false := decide_eq_false (by omega)
    clear c2
    by_cases c5 : 0 ≤ 40
    · rw [if_pos c5] at H
      have c5b0 := eq_true c5
      have c5b1 : decide (0 ≤ 40) = true := decide_eq_true c5
      clear c5
      by_cases c6 : 40 ≤ (a0.size : Int)
      · rw [if_pos c6] at H
        have c6b0 := eq_true c6
        have c6b1 : decide (40 ≤ (a0.size : Int)) = true := decide_eq_true c6
        clear c6
        replace H := Option.bind_eq_some_iff.mp H
        obtain ⟨⟨t174, t175⟩, A70, H⟩ := H
        replace H : (if 1 < (t174.length : Int) then (if 2 < (t174.length : Int) then (if 3 < (t174.length : Int) then (if 4 < (t174.length : Int) then (if 7 < (t174.length : Int) then (if 8 < (t174.length : Int) then (if 9 < (t174.length : Int) then (if 0 < (t174.length : Int) then (if (rd t174 0) = 3490578157 then (if 5 < (t174.length : Int) then (if (rd t174 5) < 17 then (head_Read.j0 k a0 true (rd t174 1) (rd t174 2) (rd t174 3) (rd t174 4) (rd t174 7) (rd t174 8) (rd t174 9)) else (if 6 < (t174.length : Int) then (head_Read.j0 k a0 (decide ((rd t174 6) > 17)) (rd t174 1) (rd t174 2) (rd t174 3) (rd t174 4) (rd t174 7) (rd t174 8) (rd t174 9)) else (none))) else (none)) else (head_Read.j0 k a0 true (rd t174 1) (rd t174 2) (rd t174 3) (rd t174 4) (rd t174 7) (rd t174 8) (rd t174 9))) else (none)) else (none)) else (none)) else (none)) else (none)) else (none)) else (none)) else (none)) = some (r1, r2, r3, r4, r5, r6, r7, r8) := H
        have A7 := Aside0.mk A70
        clear A70
        by_cases c8 : 1 < (t174.length : Int)
        · rw [if_pos c8] at H
          have c8b0 : decide (1 < (t174.length : Int)) = true := decide_eq_true c8
          have c8b1 : decide (1 < t174.length) = true := decide_eq_true (by omega)
          clear c8
          by_cases c9 : 2 < (t174.length : Int)
          · rw [if_pos c9] at H
            have c9b0 : decide (2 < (t174.length : Int)) = true := decide_eq_true c9
            have c9b1 : decide (2 < t174.length) = true := decide_eq_true (by omega)
            clear c9
            by_cases c10 : 3 < (t174.length : Int)
            · rw [if_pos c10] at H
              have c10b0 : decide (3 < (t174.length : Int)) = true := decide_eq_true c10
              have c10b1 : decide (3 < t174.length) = true := decide_eq_true (by omega)
              clear c10
              by_cases c11 : 4 < (t174.length : Int)
              · rw [if_pos c11] at H
                have c11b0 : decide (4 < (t174.length : Int)) = true := decide_eq_true c11
                have c11b1 : decide (4 < t174.length) = true := decide_eq_true (by omega)
                clear c11
                by_cases c12 : 7 < (t174.length : Int)
                · rw [if_pos c12] at H
                  have c12b0 : decide (7 < (t174.length : Int)) = true := decide_eq_true c12
                  have c12b1 : decide (7 < t174.length) = true := decide_eq_true (by omega)
                  clear c12
                  by_cases c13 : 8 < (t174.length : Int)
                  · rw [if_pos c13] at H
                    have c13b0 : decide (8 < (t174.length : Int)) = true := decide_eq_true c13
                    have c13b1 : decide (8 < t174.length) = true := decide_eq_true (by omega)
                    clear c13
                    by_cases c14 : 9 < (t174.length : Int)
                    · rw [if_pos c14] at H
                      have c14b0 : decide (9 < (t174.length : Int)) = true := decide_eq_true c14
                      have c14b1 : decide (9 < t174.length) = true := decide_eq_true (by omega)
                      clear c14
                      have HC15 := Aside0.mk H
                      clear H
                      go_enter Try.func28, Try.ntmps28
                      try go_wp2_with (first | ((with_reducible refine gate_dst (N := 2) rfl ?_); refine box_event ?hg (N := 2) ?hd (cs := #[.int .i64 0, .int .i64 0, .int .i64 0, .int .i64 0, .int .i64 0, .int .i64 0, .int .i64 0]) (t := 34) ?hr ?_; (case hd => rfl); (case hg => rfl); (case hr => first | (go_simp; done) | (go_simp; rfl)); intro gb173 hg w16 hbox hb; have n0_ := Aside0.mk (below_step (by repeat (first | (with_reducible first | exact HB.out | apply below_alloc | apply pw_below_drewN | apply below_drew1) | exact HB.out)) hb); have n1_ := Aside0.mk (hbox); have n2_ := Aside0.mk ((by rw [hg]; exact (below_size (by repeat (first | (with_reducible first | exact HB.out | apply below_alloc | apply pw_below_drewN | apply below_drew1) | exact HB.out))) : w.heap.size ≤ gb173)); have n3_ := Aside0.mk ((by rw [hg]; exact (below_size (by repeat (first | (with_reducible first | exact HB.out | apply below_alloc | apply pw_below_drewN | apply below_drew1) | exact HB.out))) : w.heap.size ≤ gb173)); clear HB; have HB := n0_; have BK173 := n1_; have GW173 := n2_; have GE173 := n3_; clear n0_ n1_ n2_ n3_; clear hb hbox hg) | ((with_reducible refine gate_callee (f := 62) rfl ?_); refine goesL_ (some 15) rfl rfl Try.func62 (by kernel_rfl) rfl #[.string (a0.extract 0 40)] rfl (by (try simp only [List.map_toArray, List.map_cons, List.map_nil]); first | done | rfl | (simp only [List.length_drop, List.length_take]; rfl)) ?_; (with_reducible refine (num_FromBigs.calls k (a0.extract 0 40) t174 t175 _ A7.out).mono ?_); rintro e w17 ⟨v176, rfl, ho0, hb⟩; refine ⟨_, rfl, ?_⟩; have n0_ := Aside0.mk (Kd.R_lower ho0 (below_size (by repeat (first | (with_reducible first | exact HB.out | apply below_alloc | apply pw_below_drewN | apply below_drew1 | refine below_set ?_ GE173.out) | exact HB.out)))); have n1_ := Aside0.mk (blk_below (g := gb173) (o := .cells #[.int .i64 0, .int .i64 0, .int .i64 0, .int .i64 0, .int .i64 0, .int .i64 0, .int .i64 0] 34 (0, 0)) (by (with_reducible repeat (first | refine blk_drewN ?_ _ | refine blk_drew ?_ | refine blk_alloc ?_ _)); exact BK173.out) hb); have n2_ := Aside0.mk (below_step (by repeat (first | (with_reducible first | exact HB.out | apply below_alloc | apply pw_below_drewN | apply below_drew1 | refine below_set ?_ GE173.out) | exact HB.out)) hb); clear BK173; clear HB; have HO177 := n0_; have BK173 := n1_; have HB := n2_; clear n0_ n1_ n2_; (try clear hb); (try clear hb2); (try clear hk); (try clear hi); (try clear ho0)))
                      have n0_ := Aside0.mk (Kd.R_drew HO177.out)
                      have n1_ := Aside0.mk (blk_drew BK173.out)
                      have n2_ := Aside0.mk (below_drew1 HB.out)
                      clear HO177
                      clear BK173
                      clear HB
                      have HO177 := n0_
                      have BK173 := n1_
                      have HB := n2_
                      clear n0_ n1_ n2_
                      obtain ⟨Ao19, co19, eo19⟩ := Kd.R_slice HO177.out
                      (first | subst eo19 | (injection eo19 with f1_ f2_ f3_; have f4_ := f1_.symm; have f5_ := f3_.symm; clear f1_ f2_ f3_; subst f4_; subst f5_))
                      have p178 : 0 ≤ (1 : Int) := (by omega)
                      have q178 : 1 < (t174.length : Int) := of_decide_eq_true (by first | (with_reducible assumption) | assumption)
                      obtain ⟨ad178, e178, hx178_0⟩ := Kd.at_int (Kd.R_reads' HO177.out).2.2 1 p178 q178
                      cases e178
                      (try simp only [show (1 : Int).toNat = 1 from rfl, Nat.reduceMul, Nat.reduceEqDiff, Go.Addr.add, ↓reduceIte] at hx178_0)
                      have qi178 : (1 < t174.length) = True := eq_true (by omega)
                      (try rw [show ((1 : Int)).toNat = 1 from rfl] at hx178_0)
                      replace p178 := eq_true p178
                      replace q178 := eq_true q178
                      have p179 : 0 ≤ (2 : Int) := (by omega)
                      have q179 : 2 < (t174.length : Int) := of_decide_eq_true (by first | (with_reducible assumption) | assumption)
                      obtain ⟨ad179, e179, hx179_0⟩ := Kd.at_int (Kd.R_reads' HO177.out).2.2 2 p179 q179
                      obtain rfl : ad178 = ad179 := (by injection e179)
                      (try simp only [show (2 : Int).toNat = 2 from rfl, Nat.reduceMul, Nat.reduceEqDiff, Go.Addr.add, ↓reduceIte] at hx179_0)
                      have qi179 : (2 < t174.length) = True := eq_true (by omega)
                      (try rw [show ((2 : Int)).toNat = 2 from rfl] at hx179_0)
                      replace p179 := eq_true p179
                      replace q179 := eq_true q179
                      have p180 : 0 ≤ (3 : Int) := (by omega)
                      have q180 : 3 < (t174.length : Int) := of_decide_eq_true (by first | (with_reducible assumption) | assumption)
                      obtain ⟨ad180, e180, hx180_0⟩ := Kd.at_int (Kd.R_reads' HO177.out).2.2 3 p180 q180
                      obtain rfl : ad178 = ad180 := (by injection e180)
                      (try simp only [show (3 : Int).toNat = 3 from rfl, Nat.reduceMul, Nat.reduceEqDiff, Go.Addr.add, ↓reduceIte] at hx180_0)
                      have qi180 : (3 < t174.length) = True := eq_true (by omega)
                      (try rw [show ((3 : Int)).toNat = 3 from rfl] at hx180_0)
                      replace p180 := eq_true p180
                      replace q180 := eq_true q180
                      have p181 : 0 ≤ (4 : Int) := (by omega)
                      have q181 : 4 < (t174.length : Int) := of_decide_eq_true (by first | (with_reducible assumption) | assumption)
                      obtain ⟨ad181, e181, hx181_0⟩ := Kd.at_int (Kd.R_reads' HO177.out).2.2 4 p181 q181
                      obtain rfl : ad178 = ad181 := (by injection e181)
                      (try simp only [show (4 : Int).toNat = 4 from rfl, Nat.reduceMul, Nat.reduceEqDiff, Go.Addr.add, ↓reduceIte] at hx181_0)
                      have qi181 : (4 < t174.length) = True := eq_true (by omega)
                      (try rw [show ((4 : Int)).toNat = 4 from rfl] at hx181_0)
                      replace p181 := eq_true p181
                      replace q181 := eq_true q181
                      have p182 : 0 ≤ (7 : Int) := (by omega)
                      have q182 : 7 < (t174.length : Int) := of_decide_eq_true (by first | (with_reducible assumption) | assumption)
                      obtain ⟨ad182, e182, hx182_0⟩ := Kd.at_int (Kd.R_reads' HO177.out).2.2 7 p182 q182
                      obtain rfl : ad178 = ad182 := (by injection e182)
                      (try simp only [show (7 : Int).toNat = 7 from rfl, Nat.reduceMul, Nat.reduceEqDiff, Go.Addr.add, ↓reduceIte] at hx182_0)
                      have qi182 : (7 < t174.length) = True := eq_true (by omega)
                      (try rw [show ((7 : Int)).toNat = 7 from rfl] at hx182_0)
                      replace p182 := eq_true p182
                      replace q182 := eq_true q182
                      have p183 : 0 ≤ (8 : Int) := (by omega)
                      have q183 : 8 < (t174.length : Int) := of_decide_eq_true (by first | (with_reducible assumption) | assumption)
                      obtain ⟨ad183, e183, hx183_0⟩ := Kd.at_int (Kd.R_reads' HO177.out).2.2 8 p183 q183
                      obtain rfl : ad178 = ad183 := (by injection e183)
                      (try simp only [show (8 : Int).toNat = 8 from rfl, Nat.reduceMul, Nat.reduceEqDiff, Go.Addr.add, ↓reduceIte] at hx183_0)
                      have qi183 : (8 < t174.length) = True := eq_true (by omega)
                      (try rw [show ((8 : Int)).toNat = 8 from rfl] at hx183_0)
                      replace p183 := eq_true p183
                      replace q183 := eq_true q183
                      have p184 : 0 ≤ (9 : Int) := (by omega)
                      have q184 : 9 < (t174.length : Int) := of_decide_eq_true (by first | (with_reducible assumption) | assumption)
                      obtain ⟨ad184, e184, hx184_0⟩ := Kd.at_int (Kd.R_reads' HO177.out).2.2 9 p184 q184
                      obtain rfl : ad178 = ad184 := (by injection e184)
                      (try simp only [show (9 : Int).toNat = 9 from rfl, Nat.reduceMul, Nat.reduceEqDiff, Go.Addr.add, ↓reduceIte] at hx184_0)
                      have qi184 : (9 < t174.length) = True := eq_true (by omega)
                      (try rw [show ((9 : Int)).toNat = 9 from rfl] at hx184_0)
                      replace p184 := eq_true p184
                      replace q184 := eq_true q184
                      refine start_ (n := 24) (S := fun w' => w'.cell? ⟨ad178.block, ad178.off + 1, none⟩ = some (.int .i64 (rd t174 1)) ∧ w'.cell? ⟨ad178.block, ad178.off + 2, none⟩ = some (.int .i64 (rd t174 2)) ∧ w'.cell? ⟨ad178.block, ad178.off + 3, none⟩ = some (.int .i64 (rd t174 3)) ∧ w'.cell? ⟨ad178.block, ad178.off + 4, none⟩ = some (.int .i64 (rd t174 4)) ∧ w'.cell? ⟨ad178.block, ad178.off + 7, none⟩ = some (.int .i64 (rd t174 7)) ∧ w'.cell? ⟨ad178.block, ad178.off + 8, none⟩ = some (.int .i64 (rd t174 8)) ∧ w'.cell? ⟨ad178.block, ad178.off + 9, none⟩ = some (.int .i64 (rd t174 9))) (ds := []) #[false, false, false, false, false, false, false, false, false, false, false, false, false, false, false, false, false, false, false, false, false, false, false, false] (by kernel_rfl) rfl rfl ⟨hx178_0, hx179_0, hx180_0, hx181_0, hx182_0, hx183_0, hx184_0⟩ (fun hHeld => ?_); refine with_tabW head_Read.tab4 head_Read.bits4 (fun HT_ HW_ => ?_)
                      generalize w17.drew = w18 at HO177 BK173 HB hx178_0 hx179_0 hx180_0 hx181_0 hx182_0 hx183_0 hx184_0 hHeld ⊢
                      refine pure_ (i := 0) (N := some 18) (v := ?_) (a' := ?_) #[true, false, false, false, false, false, false, false, false, false, false, false, false, false, false, false, false, false, false, false, false, false, false, false] rfl rfl (any_of HT_.out (by kernel_rfl)) (fun _ _ _ h => h) (Or.inl ⟨by rfl, ?_⟩) ?_ ?_
                      rotate_left
                      · intro w'
                        go_simp
                        with_reducible rfl
                      rotate_left
                      · simp only [Act.put, List.setIfInBounds_toArray, List.set_cons_zero, List.set_cons_succ, i64_w, i32_w]
                        rfl
                      refine pure_ (i := 1) (N := some 19) (v := ?_) (a' := ?_) #[true, true, false, false, false, false, false, false, false, false, false, false, false, false, false, false, false, false, false, false, false, false, false, false] rfl rfl (any_of HT_.out (by kernel_rfl)) (fun _ _ _ h => h) (Or.inl ⟨by rfl, ?_⟩) ?_ ?_
                      rotate_left
                      · intro w'
                        go_simp
                        with_reducible rfl
                      rotate_left
                      · simp only [Act.put, List.setIfInBounds_toArray, List.set_cons_zero, List.set_cons_succ, i64_w, i32_w]
                        rfl
                      refine pure_ (i := 3) (N := some 21) (v := ?_) (a' := ?_) #[true, true, false, true, false, false, false, false, false, false, false, false, false, false, false, false, false, false, false, false, false, false, false, false] rfl rfl (any_of HT_.out (by kernel_rfl)) (fun _ _ _ h => h) (Or.inl ⟨by rfl, ?_⟩) ?_ ?_
                      rotate_left
                      · intro w'
                        go_simp
                        with_reducible rfl
                      rotate_left
                      · simp only [Act.put, List.setIfInBounds_toArray, List.set_cons_zero, List.set_cons_succ, i64_w, i32_w]
                        rfl
                      refine pure_ (i := 4) (N := some 22) (v := ?_) (a' := ?_) #[true, true, false, true, true, false, false, false, false, false, false, false, false, false, false, false, false, false, false, false, false, false, false, false] rfl rfl (any_of HT_.out (by kernel_rfl)) (fun _ _ _ h => h) (Or.inl ⟨by rfl, ?_⟩) ?_ ?_
                      rotate_left
                      · intro w'
                        go_simp
                        with_reducible rfl
                      rotate_left
                      · simp only [Act.put, List.setIfInBounds_toArray, List.set_cons_zero, List.set_cons_succ, i64_w, i32_w]
                        rfl
                      refine pure_ (i := 6) (N := some 24) (v := ?_) (a' := ?_) #[true, true, false, true, true, false, true, false, false, false, false, false, false, false, false, false, false, false, false, false, false, false, false, false] rfl rfl (any_of HT_.out (by kernel_rfl)) (fun _ _ _ h => h) (Or.inl ⟨by rfl, ?_⟩) ?_ ?_
                      rotate_left
                      · intro w'
                        go_simp
                        with_reducible rfl
                      rotate_left
                      · simp only [Act.put, List.setIfInBounds_toArray, List.set_cons_zero, List.set_cons_succ, i64_w, i32_w]
                        rfl
                      refine pure_ (i := 7) (N := some 25) (v := ?_) (a' := ?_) #[true, true, false, true, true, false, true, true, false, false, false, false, false, false, false, false, false, false, false, false, false, false, false, false] rfl rfl (any_of HT_.out (by kernel_rfl)) (fun _ _ _ h => h) (Or.inl ⟨by rfl, ?_⟩) ?_ ?_
                      rotate_left
                      · intro w'
                        go_simp
                        with_reducible rfl
                      rotate_left
                      · simp only [Act.put, List.setIfInBounds_toArray, List.set_cons_zero, List.set_cons_succ, i64_w, i32_w]
                        rfl
                      refine pure_ (i := 9) (N := some 27) (v := ?_) (a' := ?_) #[true, true, false, true, true, false, true, true, false, true, false, false, false, false, false, false, false, false, false, false, false, false, false, false] rfl rfl (any_of HT_.out (by kernel_rfl)) (fun _ _ _ h => h) (Or.inl ⟨by rfl, ?_⟩) ?_ ?_
                      rotate_left
                      · intro w'
                        go_simp
                        with_reducible rfl
                      rotate_left
                      · simp only [Act.put, List.setIfInBounds_toArray, List.set_cons_zero, List.set_cons_succ, i64_w, i32_w]
                        rfl
                      refine pure_ (i := 10) (N := some 28) (v := ?_) (a' := ?_) #[true, true, false, true, true, false, true, true, false, true, true, false, false, false, false, false, false, false, false, false, false, false, false, false] rfl rfl (any_of HT_.out (by kernel_rfl)) (fun _ _ _ h => h) (Or.inl ⟨by rfl, ?_⟩) ?_ ?_
                      rotate_left
                      · intro w'
                        go_simp
                        with_reducible rfl
                      rotate_left
                      · simp only [Act.put, List.setIfInBounds_toArray, List.set_cons_zero, List.set_cons_succ, i64_w, i32_w]
                        rfl
                      refine pure_ (i := 12) (N := some 30) (v := ?_) (a' := ?_) #[true, true, false, true, true, false, true, true, false, true, true, false, true, false, false, false, false, false, false, false, false, false, false, false] rfl rfl (any_of HT_.out (by kernel_rfl)) (fun _ _ _ h => h) (Or.inl ⟨by rfl, ?_⟩) ?_ ?_
                      rotate_left
                      · intro w'
                        go_simp
                        with_reducible rfl
                      rotate_left
                      · simp only [Act.put, List.setIfInBounds_toArray, List.set_cons_zero, List.set_cons_succ, i64_w, i32_w]
                        rfl
                      refine pure_ (i := 13) (N := some 31) (v := ?_) (a' := ?_) #[true, true, false, true, true, false, true, true, false, true, true, false, true, true, false, false, false, false, false, false, false, false, false, false] rfl rfl (any_of HT_.out (by kernel_rfl)) (fun _ _ _ h => h) (Or.inl ⟨by rfl, ?_⟩) ?_ ?_
                      rotate_left
                      · intro w'
                        go_simp
                        with_reducible rfl
                      rotate_left
                      · simp only [Act.put, List.setIfInBounds_toArray, List.set_cons_zero, List.set_cons_succ, i64_w, i32_w]
                        rfl
                      refine pure_ (i := 15) (N := some 33) (v := ?_) (a' := ?_) #[true, true, false, true, true, false, true, true, false, true, true, false, true, true, false, true, false, false, false, false, false, false, false, false] rfl rfl (any_of HT_.out (by kernel_rfl)) (fun _ _ _ h => h) (Or.inl ⟨by rfl, ?_⟩) ?_ ?_
                      rotate_left
                      · intro w'
                        go_simp
                        with_reducible rfl
                      rotate_left
                      · simp only [Act.put, List.setIfInBounds_toArray, List.set_cons_zero, List.set_cons_succ, i64_w, i32_w]
                        rfl
                      refine pure_ (i := 16) (N := some 34) (v := ?_) (a' := ?_) #[true, true, false, true, true, false, true, true, false, true, true, false, true, true, false, true, true, false, false, false, false, false, false, false] rfl rfl (any_of HT_.out (by kernel_rfl)) (fun _ _ _ h => h) (Or.inl ⟨by rfl, ?_⟩) ?_ ?_
                      rotate_left
                      · intro w'
                        go_simp
                        with_reducible rfl
                      rotate_left
                      · simp only [Act.put, List.setIfInBounds_toArray, List.set_cons_zero, List.set_cons_succ, i64_w, i32_w]
                        rfl
                      refine pure_ (i := 18) (N := some 36) (v := ?_) (a' := ?_) #[true, true, false, true, true, false, true, true, false, true, true, false, true, true, false, true, true, false, true, false, false, false, false, false] rfl rfl (any_of HT_.out (by kernel_rfl)) (fun _ _ _ h => h) (Or.inl ⟨by rfl, ?_⟩) ?_ ?_
                      rotate_left
                      · intro w'
                        go_simp
                        with_reducible rfl
                      rotate_left
                      · simp only [Act.put, List.setIfInBounds_toArray, List.set_cons_zero, List.set_cons_succ, i64_w, i32_w]
                        rfl
                      refine pure_ (i := 19) (N := some 37) (v := ?_) (a' := ?_) #[true, true, false, true, true, false, true, true, false, true, true, false, true, true, false, true, true, false, true, true, false, false, false, false] rfl rfl (any_of HT_.out (by kernel_rfl)) (fun _ _ _ h => h) (Or.inl ⟨by rfl, ?_⟩) ?_ ?_
                      rotate_left
                      · intro w'
                        go_simp
                        with_reducible rfl
                      rotate_left
                      · simp only [Act.put, List.setIfInBounds_toArray, List.set_cons_zero, List.set_cons_succ, i64_w, i32_w]
                        rfl
                      refine take_ (i := 2) (N := some 20) (v := ?_) (a' := ?_) #[true, true, true, true, true, false, true, true, false, true, true, false, true, true, false, true, true, false, true, true, false, false, false, false] rfl rfl (take_ofW HT_.out HW_.out (by kernel_rfl)) (fun _ _ _ h => h) (Or.inl ⟨by rfl, ?_⟩) hHeld ?_ ?_
                      rotate_left
                      · rintro w' ⟨s0, s1, s2, s3, s4, s5, s6⟩
                        go_simp
                        with_reducible rfl
                      rotate_left
                      · simp only [Act.put, List.setIfInBounds_toArray, List.set_cons_zero, List.set_cons_succ, i64_w, i32_w]
                        rfl
                      refine take_ (i := 5) (N := some 23) (v := ?_) (a' := ?_) #[true, true, true, true, true, true, true, true, false, true, true, false, true, true, false, true, true, false, true, true, false, false, false, false] rfl rfl (take_ofW HT_.out HW_.out (by kernel_rfl)) (fun _ _ _ h => h) (Or.inl ⟨by rfl, ?_⟩) hHeld ?_ ?_
                      rotate_left
                      · rintro w' ⟨s0, s1, s2, s3, s4, s5, s6⟩
                        go_simp
                        with_reducible rfl
                      rotate_left
                      · simp only [Act.put, List.setIfInBounds_toArray, List.set_cons_zero, List.set_cons_succ, i64_w, i32_w]
                        rfl
                      refine take_ (i := 8) (N := some 26) (v := ?_) (a' := ?_) #[true, true, true, true, true, true, true, true, true, true, true, false, true, true, false, true, true, false, true, true, false, false, false, false] rfl rfl (take_ofW HT_.out HW_.out (by kernel_rfl)) (fun _ _ _ h => h) (Or.inl ⟨by rfl, ?_⟩) hHeld ?_ ?_
                      rotate_left
                      · rintro w' ⟨s0, s1, s2, s3, s4, s5, s6⟩
                        go_simp
                        with_reducible rfl
                      rotate_left
                      · simp only [Act.put, List.setIfInBounds_toArray, List.set_cons_zero, List.set_cons_succ, i64_w, i32_w]
                        rfl
                      refine take_ (i := 11) (N := some 29) (v := ?_) (a' := ?_) #[true, true, true, true, true, true, true, true, true, true, true, true, true, true, false, true, true, false, true, true, false, false, false, false] rfl rfl (take_ofW HT_.out HW_.out (by kernel_rfl)) (fun _ _ _ h => h) (Or.inl ⟨by rfl, ?_⟩) hHeld ?_ ?_
                      rotate_left
                      · rintro w' ⟨s0, s1, s2, s3, s4, s5, s6⟩
                        go_simp
                        with_reducible rfl
                      rotate_left
                      · simp only [Act.put, List.setIfInBounds_toArray, List.set_cons_zero, List.set_cons_succ, i64_w, i32_w]
                        rfl
                      refine take_ (i := 14) (N := some 32) (v := ?_) (a' := ?_) #[true, true, true, true, true, true, true, true, true, true, true, true, true, true, true, true, true, false, true, true, false, false, false, false] rfl rfl (take_ofW HT_.out HW_.out (by kernel_rfl)) (fun _ _ _ h => h) (Or.inl ⟨by rfl, ?_⟩) hHeld ?_ ?_
                      rotate_left
                      · rintro w' ⟨s0, s1, s2, s3, s4, s5, s6⟩
                        go_simp
                        with_reducible rfl
                      rotate_left
                      · simp only [Act.put, List.setIfInBounds_toArray, List.set_cons_zero, List.set_cons_succ, i64_w, i32_w]
                        rfl
                      refine take_ (i := 17) (N := some 35) (v := ?_) (a' := ?_) #[true, true, true, true, true, true, true, true, true, true, true, true, true, true, true, true, true, true, true, true, false, false, false, false] rfl rfl (take_ofW HT_.out HW_.out (by kernel_rfl)) (fun _ _ _ h => h) (Or.inl ⟨by rfl, ?_⟩) hHeld ?_ ?_
                      rotate_left
                      · rintro w' ⟨s0, s1, s2, s3, s4, s5, s6⟩
                        go_simp
                        with_reducible rfl
                      rotate_left
                      · simp only [Act.put, List.setIfInBounds_toArray, List.set_cons_zero, List.set_cons_succ, i64_w, i32_w]
                        rfl
                      refine take_ (i := 20) (N := some 38) (v := ?_) (a' := ?_) #[true, true, true, true, true, true, true, true, true, true, true, true, true, true, true, true, true, true, true, true, true, false, false, false] rfl rfl (take_ofW HT_.out HW_.out (by kernel_rfl)) (fun _ _ _ h => h) (Or.inl ⟨by rfl, ?_⟩) hHeld ?_ ?_
                      rotate_left
                      · rintro w' ⟨s0, s1, s2, s3, s4, s5, s6⟩
                        go_simp
                        with_reducible rfl
                      rotate_left
                      · simp only [Act.put, List.setIfInBounds_toArray, List.set_cons_zero, List.set_cons_succ, i64_w, i32_w]
                        rfl
                      refine pure_ (i := 21) (N := some 39) (v := ?_) (a' := ?_) #[true, true, true, true, true, true, true, true, true, true, true, true, true, true, true, true, true, true, true, true, true, true, false, false] rfl rfl (any_of HT_.out (by kernel_rfl)) (fun _ _ _ h => h) (Or.inl ⟨by rfl, ?_⟩) ?_ ?_
                      rotate_left
                      · intro w'
                        go_simp
                        with_reducible rfl
                      rotate_left
                      · simp only [Act.put, List.setIfInBounds_toArray, List.set_cons_zero, List.set_cons_succ, i64_w, i32_w]
                        rfl
                      refine one_ (i := 22) (N := some 6) #[true, true, true, true, true, true, true, true, true, true, true, true, true, true, true, true, true, true, true, true, true, true, true, false] rfl rfl (one_of HT_.out (by kernel_rfl)) (by decide) (fun K hK => ?_)
                      refine box_step ?hg (N := 6) ?hd (cs := #[.int .i64 0, .int .i64 0, .int .i64 0, .int .i64 0, .int .i64 0, .int .i64 0, .int .i64 0]) (t := 34) ?hr ?_; (case hd => rfl); (case hg => rfl); (case hr => first | (go_simp; done) | (go_simp; rfl))
                      intro gb185 hg w20 hbox hb
                      have HS0_ := (hb.cell (World.block_lt_of_cell? _ _ (hHeld.1))).trans (hHeld.1)
                      have HS1_ := (hb.cell (World.block_lt_of_cell? _ _ (hHeld.2.1))).trans (hHeld.2.1)
                      have HS2_ := (hb.cell (World.block_lt_of_cell? _ _ (hHeld.2.2.1))).trans (hHeld.2.2.1)
                      have HS3_ := (hb.cell (World.block_lt_of_cell? _ _ (hHeld.2.2.2.1))).trans (hHeld.2.2.2.1)
                      have HS4_ := (hb.cell (World.block_lt_of_cell? _ _ (hHeld.2.2.2.2.1))).trans (hHeld.2.2.2.2.1)
                      have HS5_ := (hb.cell (World.block_lt_of_cell? _ _ (hHeld.2.2.2.2.2.1))).trans (hHeld.2.2.2.2.2.1)
                      have HS6_ := (hb.cell (World.block_lt_of_cell? _ _ (hHeld.2.2.2.2.2.2))).trans (hHeld.2.2.2.2.2.2)
                      have n0_ := Aside0.mk (Kd.R_below (by (with_reducible repeat (first | apply Kd.R_alloc | apply Kd.R_drewN | apply Kd.R_drew)); exact HO177.out) hb)
                      have n1_ := Aside0.mk (blk_below (g := gb173) (o := .cells #[.int .i64 0, .int .i64 0, .int .i64 0, .int .i64 0, .int .i64 0, .int .i64 0, .int .i64 0] 34 (0, 0)) (by (with_reducible repeat (first | refine blk_drewN ?_ _ | refine blk_drew ?_ | refine blk_alloc ?_ _)); exact BK173.out) hb)
                      have n2_ := Aside0.mk (below_step (by repeat (first | (with_reducible first | exact HB.out | apply below_alloc | apply pw_below_drewN | apply below_drew1 | refine below_set ?_ GE173.out) | exact HB.out)) hb)
                      have n3_ := Aside0.mk (hbox)
                      have n4_ := Aside0.mk ((by rw [hg]; exact (below_size (by repeat (first | (with_reducible first | exact HB.out | apply below_alloc | apply pw_below_drewN | apply below_drew1 | refine below_set ?_ GE173.out) | exact HB.out))) : w.heap.size ≤ gb185))
                      have n5_ := Aside0.mk ((by rw [hg]; exact (below_size (by repeat (first | (with_reducible first | exact HB.out | apply below_alloc | apply pw_below_drewN | apply below_drew1 | refine below_set ?_ GE173.out) | exact HB.out))) : w.heap.size ≤ gb185))
                      have n6_ := Aside0.mk ((by rw [hg]; exact Nat.ne_of_lt (blk_lt (g := gb173) (o := .cells #[.int .i64 0, .int .i64 0, .int .i64 0, .int .i64 0, .int .i64 0, .int .i64 0, .int .i64 0] 34 (0, 0)) (by (with_reducible repeat (first | refine blk_drewN ?_ _ | refine blk_drew ?_ | refine blk_alloc ?_ _)); exact BK173.out)) : gb173 ≠ gb185))
                      have n7_ := Aside0.mk ((by rw [hg]; exact Nat.ne_of_gt (blk_lt (g := gb173) (o := .cells #[.int .i64 0, .int .i64 0, .int .i64 0, .int .i64 0, .int .i64 0, .int .i64 0, .int .i64 0] 34 (0, 0)) (by (with_reducible repeat (first | refine blk_drewN ?_ _ | refine blk_drew ?_ | refine blk_alloc ?_ _)); exact BK173.out)) : gb185 ≠ gb173))
                      clear HO177
                      clear BK173
                      clear HB
                      have HO177 := n0_
                      have BK173 := n1_
                      have HB := n2_
                      have BK185 := n3_
                      have GW185 := n4_
                      have GE185 := n5_
                      have NB173_185 := n6_
                      have NB185_173 := n7_
                      clear n0_ n1_ n2_ n3_ n4_ n5_ n6_ n7_
                      clear hb hbox hg
                      refine hK.out _ _ ⟨HS0_, HS1_, HS2_, HS3_, HS4_, HS5_, HS6_⟩ (fun hHeld => ?_)
                      clear hK K
                      refine norm_ (a' := ?_) ?_ ?_
                      rotate_left
                      · show Act.put _ (some 6) _ = _
                        simp only [Act.put, List.setIfInBounds_toArray, List.set_cons_zero, List.set_cons_succ, i64_w, i32_w]
                        rfl
                      refine one_ (i := 23) (N := none) #[true, true, true, true, true, true, true, true, true, true, true, true, true, true, true, true, true, true, true, true, true, true, true, true] rfl rfl (one_of HT_.out (by kernel_rfl)) (by decide) (fun K hK => ?_)
                      have hs21 : w20.cell? ⟨gb185, 0, none⟩ = some (.int .i64 0) := (blk_cell BK185.out 0).trans rfl
                      have hfs21 := blk_frozen BK185.out 0
                      have hns21_0 := NB173_185.out
                      have hms21_0 := NB185_173.out
                      have hs22 : w20.cell? ⟨gb185, 1, none⟩ = some (.int .i64 0) := (blk_cell BK185.out 1).trans rfl
                      have hfs22 := blk_frozen BK185.out 1
                      have hns22_0 := NB173_185.out
                      have hms22_0 := NB185_173.out
                      have hs23 : w20.cell? ⟨gb185, 2, none⟩ = some (.int .i64 0) := (blk_cell BK185.out 2).trans rfl
                      have hfs23 := blk_frozen BK185.out 2
                      have hns23_0 := NB173_185.out
                      have hms23_0 := NB185_173.out
                      have hs24 : w20.cell? ⟨gb185, 3, none⟩ = some (.int .i64 0) := (blk_cell BK185.out 3).trans rfl
                      have hfs24 := blk_frozen BK185.out 3
                      have hns24_0 := NB173_185.out
                      have hms24_0 := NB185_173.out
                      have hs25 : w20.cell? ⟨gb185, 4, none⟩ = some (.int .i64 0) := (blk_cell BK185.out 4).trans rfl
                      have hfs25 := blk_frozen BK185.out 4
                      have hns25_0 := NB173_185.out
                      have hms25_0 := NB185_173.out
                      have hs26 : w20.cell? ⟨gb185, 5, none⟩ = some (.int .i64 0) := (blk_cell BK185.out 5).trans rfl
                      have hfs26 := blk_frozen BK185.out 5
                      have hns26_0 := NB173_185.out
                      have hms26_0 := NB185_173.out
                      have hs27 : w20.cell? ⟨gb185, 6, none⟩ = some (.int .i64 0) := (blk_cell BK185.out 6).trans rfl
                      have hfs27 := blk_frozen BK185.out 6
                      have hns27_0 := NB173_185.out
                      have hms27_0 := NB185_173.out
                      refine skip_ (w1 := ?_) (by rfl) rfl ?_ ?_
                      rotate_left
                      · go_simp
                        rfl
                      refine hK.out _ _ ⟨((cell_far (p := ⟨gb185, _, none⟩) (by first | exact Kd.own_blk (Kd.R_ne HO177.out BK185.out (by decide)) | (rw [add_block]; exact Kd.own_blk (Kd.R_ne HO177.out BK185.out (by decide))) | (show (Addr.add _ _).block ≠ _; rw [add_block]; exact Kd.own_blk (Kd.R_ne HO177.out BK185.out (by decide))) | (dsimp only; exact Kd.own_blk (Kd.R_ne HO177.out BK185.out (by decide)))) _).trans (((cell_far (p := ⟨gb185, _, none⟩) (by first | exact Kd.own_blk (Kd.R_ne HO177.out BK185.out (by decide)) | (rw [add_block]; exact Kd.own_blk (Kd.R_ne HO177.out BK185.out (by decide))) | (show (Addr.add _ _).block ≠ _; rw [add_block]; exact Kd.own_blk (Kd.R_ne HO177.out BK185.out (by decide))) | (dsimp only; exact Kd.own_blk (Kd.R_ne HO177.out BK185.out (by decide)))) _).trans (((cell_far (p := ⟨gb185, _, none⟩) (by first | exact Kd.own_blk (Kd.R_ne HO177.out BK185.out (by decide)) | (rw [add_block]; exact Kd.own_blk (Kd.R_ne HO177.out BK185.out (by decide))) | (show (Addr.add _ _).block ≠ _; rw [add_block]; exact Kd.own_blk (Kd.R_ne HO177.out BK185.out (by decide))) | (dsimp only; exact Kd.own_blk (Kd.R_ne HO177.out BK185.out (by decide)))) _).trans (((cell_far (p := ⟨gb185, _, none⟩) (by first | exact Kd.own_blk (Kd.R_ne HO177.out BK185.out (by decide)) | (rw [add_block]; exact Kd.own_blk (Kd.R_ne HO177.out BK185.out (by decide))) | (show (Addr.add _ _).block ≠ _; rw [add_block]; exact Kd.own_blk (Kd.R_ne HO177.out BK185.out (by decide))) | (dsimp only; exact Kd.own_blk (Kd.R_ne HO177.out BK185.out (by decide)))) _).trans (((cell_far (p := ⟨gb185, _, none⟩) (by first | exact Kd.own_blk (Kd.R_ne HO177.out BK185.out (by decide)) | (rw [add_block]; exact Kd.own_blk (Kd.R_ne HO177.out BK185.out (by decide))) | (show (Addr.add _ _).block ≠ _; rw [add_block]; exact Kd.own_blk (Kd.R_ne HO177.out BK185.out (by decide))) | (dsimp only; exact Kd.own_blk (Kd.R_ne HO177.out BK185.out (by decide)))) _).trans (((cell_far (p := ⟨gb185, _, none⟩) (by first | exact Kd.own_blk (Kd.R_ne HO177.out BK185.out (by decide)) | (rw [add_block]; exact Kd.own_blk (Kd.R_ne HO177.out BK185.out (by decide))) | (show (Addr.add _ _).block ≠ _; rw [add_block]; exact Kd.own_blk (Kd.R_ne HO177.out BK185.out (by decide))) | (dsimp only; exact Kd.own_blk (Kd.R_ne HO177.out BK185.out (by decide)))) _).trans (((cell_far (p := ⟨gb185, _, none⟩) (by first | exact Kd.own_blk (Kd.R_ne HO177.out BK185.out (by decide)) | (rw [add_block]; exact Kd.own_blk (Kd.R_ne HO177.out BK185.out (by decide))) | (show (Addr.add _ _).block ≠ _; rw [add_block]; exact Kd.own_blk (Kd.R_ne HO177.out BK185.out (by decide))) | (dsimp only; exact Kd.own_blk (Kd.R_ne HO177.out BK185.out (by decide)))) _).trans (hHeld.1)))))))))))))), ((cell_far (p := ⟨gb185, _, none⟩) (by first | exact Kd.own_blk (Kd.R_ne HO177.out BK185.out (by decide)) | (rw [add_block]; exact Kd.own_blk (Kd.R_ne HO177.out BK185.out (by decide))) | (show (Addr.add _ _).block ≠ _; rw [add_block]; exact Kd.own_blk (Kd.R_ne HO177.out BK185.out (by decide))) | (dsimp only; exact Kd.own_blk (Kd.R_ne HO177.out BK185.out (by decide)))) _).trans (((cell_far (p := ⟨gb185, _, none⟩) (by first | exact Kd.own_blk (Kd.R_ne HO177.out BK185.out (by decide)) | (rw [add_block]; exact Kd.own_blk (Kd.R_ne HO177.out BK185.out (by decide))) | (show (Addr.add _ _).block ≠ _; rw [add_block]; exact Kd.own_blk (Kd.R_ne HO177.out BK185.out (by decide))) | (dsimp only; exact Kd.own_blk (Kd.R_ne HO177.out BK185.out (by decide)))) _).trans (((cell_far (p := ⟨gb185, _, none⟩) (by first | exact Kd.own_blk (Kd.R_ne HO177.out BK185.out (by decide)) | (rw [add_block]; exact Kd.own_blk (Kd.R_ne HO177.out BK185.out (by decide))) | (show (Addr.add _ _).block ≠ _; rw [add_block]; exact Kd.own_blk (Kd.R_ne HO177.out BK185.out (by decide))) | (dsimp only; exact Kd.own_blk (Kd.R_ne HO177.out BK185.out (by decide)))) _).trans (((cell_far (p := ⟨gb185, _, none⟩) (by first | exact Kd.own_blk (Kd.R_ne HO177.out BK185.out (by decide)) | (rw [add_block]; exact Kd.own_blk (Kd.R_ne HO177.out BK185.out (by decide))) | (show (Addr.add _ _).block ≠ _; rw [add_block]; exact Kd.own_blk (Kd.R_ne HO177.out BK185.out (by decide))) | (dsimp only; exact Kd.own_blk (Kd.R_ne HO177.out BK185.out (by decide)))) _).trans (((cell_far (p := ⟨gb185, _, none⟩) (by first | exact Kd.own_blk (Kd.R_ne HO177.out BK185.out (by decide)) | (rw [add_block]; exact Kd.own_blk (Kd.R_ne HO177.out BK185.out (by decide))) | (show (Addr.add _ _).block ≠ _; rw [add_block]; exact Kd.own_blk (Kd.R_ne HO177.out BK185.out (by decide))) | (dsimp only; exact Kd.own_blk (Kd.R_ne HO177.out BK185.out (by decide)))) _).trans (((cell_far (p := ⟨gb185, _, none⟩) (by first | exact Kd.own_blk (Kd.R_ne HO177.out BK185.out (by decide)) | (rw [add_block]; exact Kd.own_blk (Kd.R_ne HO177.out BK185.out (by decide))) | (show (Addr.add _ _).block ≠ _; rw [add_block]; exact Kd.own_blk (Kd.R_ne HO177.out BK185.out (by decide))) | (dsimp only; exact Kd.own_blk (Kd.R_ne HO177.out BK185.out (by decide)))) _).trans (((cell_far (p := ⟨gb185, _, none⟩) (by first | exact Kd.own_blk (Kd.R_ne HO177.out BK185.out (by decide)) | (rw [add_block]; exact Kd.own_blk (Kd.R_ne HO177.out BK185.out (by decide))) | (show (Addr.add _ _).block ≠ _; rw [add_block]; exact Kd.own_blk (Kd.R_ne HO177.out BK185.out (by decide))) | (dsimp only; exact Kd.own_blk (Kd.R_ne HO177.out BK185.out (by decide)))) _).trans (hHeld.2.1)))))))))))))), ((cell_far (p := ⟨gb185, _, none⟩) (by first | exact Kd.own_blk (Kd.R_ne HO177.out BK185.out (by decide)) | (rw [add_block]; exact Kd.own_blk (Kd.R_ne HO177.out BK185.out (by decide))) | (show (Addr.add _ _).block ≠ _; rw [add_block]; exact Kd.own_blk (Kd.R_ne HO177.out BK185.out (by decide))) | (dsimp only; exact Kd.own_blk (Kd.R_ne HO177.out BK185.out (by decide)))) _).trans (((cell_far (p := ⟨gb185, _, none⟩) (by first | exact Kd.own_blk (Kd.R_ne HO177.out BK185.out (by decide)) | (rw [add_block]; exact Kd.own_blk (Kd.R_ne HO177.out BK185.out (by decide))) | (show (Addr.add _ _).block ≠ _; rw [add_block]; exact Kd.own_blk (Kd.R_ne HO177.out BK185.out (by decide))) | (dsimp only; exact Kd.own_blk (Kd.R_ne HO177.out BK185.out (by decide)))) _).trans (((cell_far (p := ⟨gb185, _, none⟩) (by first | exact Kd.own_blk (Kd.R_ne HO177.out BK185.out (by decide)) | (rw [add_block]; exact Kd.own_blk (Kd.R_ne HO177.out BK185.out (by decide))) | (show (Addr.add _ _).block ≠ _; rw [add_block]; exact Kd.own_blk (Kd.R_ne HO177.out BK185.out (by decide))) | (dsimp only; exact Kd.own_blk (Kd.R_ne HO177.out BK185.out (by decide)))) _).trans (((cell_far (p := ⟨gb185, _, none⟩) (by first | exact Kd.own_blk (Kd.R_ne HO177.out BK185.out (by decide)) | (rw [add_block]; exact Kd.own_blk (Kd.R_ne HO177.out BK185.out (by decide))) | (show (Addr.add _ _).block ≠ _; rw [add_block]; exact Kd.own_blk (Kd.R_ne HO177.out BK185.out (by decide))) | (dsimp only; exact Kd.own_blk (Kd.R_ne HO177.out BK185.out (by decide)))) _).trans (((cell_far (p := ⟨gb185, _, none⟩) (by first | exact Kd.own_blk (Kd.R_ne HO177.out BK185.out (by decide)) | (rw [add_block]; exact Kd.own_blk (Kd.R_ne HO177.out BK185.out (by decide))) | (show (Addr.add _ _).block ≠ _; rw [add_block]; exact Kd.own_blk (Kd.R_ne HO177.out BK185.out (by decide))) | (dsimp only; exact Kd.own_blk (Kd.R_ne HO177.out BK185.out (by decide)))) _).trans (((cell_far (p := ⟨gb185, _, none⟩) (by first | exact Kd.own_blk (Kd.R_ne HO177.out BK185.out (by decide)) | (rw [add_block]; exact Kd.own_blk (Kd.R_ne HO177.out BK185.out (by decide))) | (show (Addr.add _ _).block ≠ _; rw [add_block]; exact Kd.own_blk (Kd.R_ne HO177.out BK185.out (by decide))) | (dsimp only; exact Kd.own_blk (Kd.R_ne HO177.out BK185.out (by decide)))) _).trans (((cell_far (p := ⟨gb185, _, none⟩) (by first | exact Kd.own_blk (Kd.R_ne HO177.out BK185.out (by decide)) | (rw [add_block]; exact Kd.own_blk (Kd.R_ne HO177.out BK185.out (by decide))) | (show (Addr.add _ _).block ≠ _; rw [add_block]; exact Kd.own_blk (Kd.R_ne HO177.out BK185.out (by decide))) | (dsimp only; exact Kd.own_blk (Kd.R_ne HO177.out BK185.out (by decide)))) _).trans (hHeld.2.2.1)))))))))))))), ((cell_far (p := ⟨gb185, _, none⟩) (by first | exact Kd.own_blk (Kd.R_ne HO177.out BK185.out (by decide)) | (rw [add_block]; exact Kd.own_blk (Kd.R_ne HO177.out BK185.out (by decide))) | (show (Addr.add _ _).block ≠ _; rw [add_block]; exact Kd.own_blk (Kd.R_ne HO177.out BK185.out (by decide))) | (dsimp only; exact Kd.own_blk (Kd.R_ne HO177.out BK185.out (by decide)))) _).trans (((cell_far (p := ⟨gb185, _, none⟩) (by first | exact Kd.own_blk (Kd.R_ne HO177.out BK185.out (by decide)) | (rw [add_block]; exact Kd.own_blk (Kd.R_ne HO177.out BK185.out (by decide))) | (show (Addr.add _ _).block ≠ _; rw [add_block]; exact Kd.own_blk (Kd.R_ne HO177.out BK185.out (by decide))) | (dsimp only; exact Kd.own_blk (Kd.R_ne HO177.out BK185.out (by decide)))) _).trans (((cell_far (p := ⟨gb185, _, none⟩) (by first | exact Kd.own_blk (Kd.R_ne HO177.out BK185.out (by decide)) | (rw [add_block]; exact Kd.own_blk (Kd.R_ne HO177.out BK185.out (by decide))) | (show (Addr.add _ _).block ≠ _; rw [add_block]; exact Kd.own_blk (Kd.R_ne HO177.out BK185.out (by decide))) | (dsimp only; exact Kd.own_blk (Kd.R_ne HO177.out BK185.out (by decide)))) _).trans (((cell_far (p := ⟨gb185, _, none⟩) (by first | exact Kd.own_blk (Kd.R_ne HO177.out BK185.out (by decide)) | (rw [add_block]; exact Kd.own_blk (Kd.R_ne HO177.out BK185.out (by decide))) | (show (Addr.add _ _).block ≠ _; rw [add_block]; exact Kd.own_blk (Kd.R_ne HO177.out BK185.out (by decide))) | (dsimp only; exact Kd.own_blk (Kd.R_ne HO177.out BK185.out (by decide)))) _).trans (((cell_far (p := ⟨gb185, _, none⟩) (by first | exact Kd.own_blk (Kd.R_ne HO177.out BK185.out (by decide)) | (rw [add_block]; exact Kd.own_blk (Kd.R_ne HO177.out BK185.out (by decide))) | (show (Addr.add _ _).block ≠ _; rw [add_block]; exact Kd.own_blk (Kd.R_ne HO177.out BK185.out (by decide))) | (dsimp only; exact Kd.own_blk (Kd.R_ne HO177.out BK185.out (by decide)))) _).trans (((cell_far (p := ⟨gb185, _, none⟩) (by first | exact Kd.own_blk (Kd.R_ne HO177.out BK185.out (by decide)) | (rw [add_block]; exact Kd.own_blk (Kd.R_ne HO177.out BK185.out (by decide))) | (show (Addr.add _ _).block ≠ _; rw [add_block]; exact Kd.own_blk (Kd.R_ne HO177.out BK185.out (by decide))) | (dsimp only; exact Kd.own_blk (Kd.R_ne HO177.out BK185.out (by decide)))) _).trans (((cell_far (p := ⟨gb185, _, none⟩) (by first | exact Kd.own_blk (Kd.R_ne HO177.out BK185.out (by decide)) | (rw [add_block]; exact Kd.own_blk (Kd.R_ne HO177.out BK185.out (by decide))) | (show (Addr.add _ _).block ≠ _; rw [add_block]; exact Kd.own_blk (Kd.R_ne HO177.out BK185.out (by decide))) | (dsimp only; exact Kd.own_blk (Kd.R_ne HO177.out BK185.out (by decide)))) _).trans (hHeld.2.2.2.1)))))))))))))), ((cell_far (p := ⟨gb185, _, none⟩) (by first | exact Kd.own_blk (Kd.R_ne HO177.out BK185.out (by decide)) | (rw [add_block]; exact Kd.own_blk (Kd.R_ne HO177.out BK185.out (by decide))) | (show (Addr.add _ _).block ≠ _; rw [add_block]; exact Kd.own_blk (Kd.R_ne HO177.out BK185.out (by decide))) | (dsimp only; exact Kd.own_blk (Kd.R_ne HO177.out BK185.out (by decide)))) _).trans (((cell_far (p := ⟨gb185, _, none⟩) (by first | exact Kd.own_blk (Kd.R_ne HO177.out BK185.out (by decide)) | (rw [add_block]; exact Kd.own_blk (Kd.R_ne HO177.out BK185.out (by decide))) | (show (Addr.add _ _).block ≠ _; rw [add_block]; exact Kd.own_blk (Kd.R_ne HO177.out BK185.out (by decide))) | (dsimp only; exact Kd.own_blk (Kd.R_ne HO177.out BK185.out (by decide)))) _).trans (((cell_far (p := ⟨gb185, _, none⟩) (by first | exact Kd.own_blk (Kd.R_ne HO177.out BK185.out (by decide)) | (rw [add_block]; exact Kd.own_blk (Kd.R_ne HO177.out BK185.out (by decide))) | (show (Addr.add _ _).block ≠ _; rw [add_block]; exact Kd.own_blk (Kd.R_ne HO177.out BK185.out (by decide))) | (dsimp only; exact Kd.own_blk (Kd.R_ne HO177.out BK185.out (by decide)))) _).trans (((cell_far (p := ⟨gb185, _, none⟩) (by first | exact Kd.own_blk (Kd.R_ne HO177.out BK185.out (by decide)) | (rw [add_block]; exact Kd.own_blk (Kd.R_ne HO177.out BK185.out (by decide))) | (show (Addr.add _ _).block ≠ _; rw [add_block]; exact Kd.own_blk (Kd.R_ne HO177.out BK185.out (by decide))) | (dsimp only; exact Kd.own_blk (Kd.R_ne HO177.out BK185.out (by decide)))) _).trans (((cell_far (p := ⟨gb185, _, none⟩) (by first | exact Kd.own_blk (Kd.R_ne HO177.out BK185.out (by decide)) | (rw [add_block]; exact Kd.own_blk (Kd.R_ne HO177.out BK185.out (by decide))) | (show (Addr.add _ _).block ≠ _; rw [add_block]; exact Kd.own_blk (Kd.R_ne HO177.out BK185.out (by decide))) | (dsimp only; exact Kd.own_blk (Kd.R_ne HO177.out BK185.out (by decide)))) _).trans (((cell_far (p := ⟨gb185, _, none⟩) (by first | exact Kd.own_blk (Kd.R_ne HO177.out BK185.out (by decide)) | (rw [add_block]; exact Kd.own_blk (Kd.R_ne HO177.out BK185.out (by decide))) | (show (Addr.add _ _).block ≠ _; rw [add_block]; exact Kd.own_blk (Kd.R_ne HO177.out BK185.out (by decide))) | (dsimp only; exact Kd.own_blk (Kd.R_ne HO177.out BK185.out (by decide)))) _).trans (((cell_far (p := ⟨gb185, _, none⟩) (by first | exact Kd.own_blk (Kd.R_ne HO177.out BK185.out (by decide)) | (rw [add_block]; exact Kd.own_blk (Kd.R_ne HO177.out BK185.out (by decide))) | (show (Addr.add _ _).block ≠ _; rw [add_block]; exact Kd.own_blk (Kd.R_ne HO177.out BK185.out (by decide))) | (dsimp only; exact Kd.own_blk (Kd.R_ne HO177.out BK185.out (by decide)))) _).trans (hHeld.2.2.2.2.1)))))))))))))), ((cell_far (p := ⟨gb185, _, none⟩) (by first | exact Kd.own_blk (Kd.R_ne HO177.out BK185.out (by decide)) | (rw [add_block]; exact Kd.own_blk (Kd.R_ne HO177.out BK185.out (by decide))) | (show (Addr.add _ _).block ≠ _; rw [add_block]; exact Kd.own_blk (Kd.R_ne HO177.out BK185.out (by decide))) | (dsimp only; exact Kd.own_blk (Kd.R_ne HO177.out BK185.out (by decide)))) _).trans (((cell_far (p := ⟨gb185, _, none⟩) (by first | exact Kd.own_blk (Kd.R_ne HO177.out BK185.out (by decide)) | (rw [add_block]; exact Kd.own_blk (Kd.R_ne HO177.out BK185.out (by decide))) | (show (Addr.add _ _).block ≠ _; rw [add_block]; exact Kd.own_blk (Kd.R_ne HO177.out BK185.out (by decide))) | (dsimp only; exact Kd.own_blk (Kd.R_ne HO177.out BK185.out (by decide)))) _).trans (((cell_far (p := ⟨gb185, _, none⟩) (by first | exact Kd.own_blk (Kd.R_ne HO177.out BK185.out (by decide)) | (rw [add_block]; exact Kd.own_blk (Kd.R_ne HO177.out BK185.out (by decide))) | (show (Addr.add _ _).block ≠ _; rw [add_block]; exact Kd.own_blk (Kd.R_ne HO177.out BK185.out (by decide))) | (dsimp only; exact Kd.own_blk (Kd.R_ne HO177.out BK185.out (by decide)))) _).trans (((cell_far (p := ⟨gb185, _, none⟩) (by first | exact Kd.own_blk (Kd.R_ne HO177.out BK185.out (by decide)) | (rw [add_block]; exact Kd.own_blk (Kd.R_ne HO177.out BK185.out (by decide))) | (show (Addr.add _ _).block ≠ _; rw [add_block]; exact Kd.own_blk (Kd.R_ne HO177.out BK185.out (by decide))) | (dsimp only; exact Kd.own_blk (Kd.R_ne HO177.out BK185.out (by decide)))) _).trans (((cell_far (p := ⟨gb185, _, none⟩) (by first | exact Kd.own_blk (Kd.R_ne HO177.out BK185.out (by decide)) | (rw [add_block]; exact Kd.own_blk (Kd.R_ne HO177.out BK185.out (by decide))) | (show (Addr.add _ _).block ≠ _; rw [add_block]; exact Kd.own_blk (Kd.R_ne HO177.out BK185.out (by decide))) | (dsimp only; exact Kd.own_blk (Kd.R_ne HO177.out BK185.out (by decide)))) _).trans (((cell_far (p := ⟨gb185, _, none⟩) (by first | exact Kd.own_blk (Kd.R_ne HO177.out BK185.out (by decide)) | (rw [add_block]; exact Kd.own_blk (Kd.R_ne HO177.out BK185.out (by decide))) | (show (Addr.add _ _).block ≠ _; rw [add_block]; exact Kd.own_blk (Kd.R_ne HO177.out BK185.out (by decide))) | (dsimp only; exact Kd.own_blk (Kd.R_ne HO177.out BK185.out (by decide)))) _).trans (((cell_far (p := ⟨gb185, _, none⟩) (by first | exact Kd.own_blk (Kd.R_ne HO177.out BK185.out (by decide)) | (rw [add_block]; exact Kd.own_blk (Kd.R_ne HO177.out BK185.out (by decide))) | (show (Addr.add _ _).block ≠ _; rw [add_block]; exact Kd.own_blk (Kd.R_ne HO177.out BK185.out (by decide))) | (dsimp only; exact Kd.own_blk (Kd.R_ne HO177.out BK185.out (by decide)))) _).trans (hHeld.2.2.2.2.2.1)))))))))))))), ((cell_far (p := ⟨gb185, _, none⟩) (by first | exact Kd.own_blk (Kd.R_ne HO177.out BK185.out (by decide)) | (rw [add_block]; exact Kd.own_blk (Kd.R_ne HO177.out BK185.out (by decide))) | (show (Addr.add _ _).block ≠ _; rw [add_block]; exact Kd.own_blk (Kd.R_ne HO177.out BK185.out (by decide))) | (dsimp only; exact Kd.own_blk (Kd.R_ne HO177.out BK185.out (by decide)))) _).trans (((cell_far (p := ⟨gb185, _, none⟩) (by first | exact Kd.own_blk (Kd.R_ne HO177.out BK185.out (by decide)) | (rw [add_block]; exact Kd.own_blk (Kd.R_ne HO177.out BK185.out (by decide))) | (show (Addr.add _ _).block ≠ _; rw [add_block]; exact Kd.own_blk (Kd.R_ne HO177.out BK185.out (by decide))) | (dsimp only; exact Kd.own_blk (Kd.R_ne HO177.out BK185.out (by decide)))) _).trans (((cell_far (p := ⟨gb185, _, none⟩) (by first | exact Kd.own_blk (Kd.R_ne HO177.out BK185.out (by decide)) | (rw [add_block]; exact Kd.own_blk (Kd.R_ne HO177.out BK185.out (by decide))) | (show (Addr.add _ _).block ≠ _; rw [add_block]; exact Kd.own_blk (Kd.R_ne HO177.out BK185.out (by decide))) | (dsimp only; exact Kd.own_blk (Kd.R_ne HO177.out BK185.out (by decide)))) _).trans (((cell_far (p := ⟨gb185, _, none⟩) (by first | exact Kd.own_blk (Kd.R_ne HO177.out BK185.out (by decide)) | (rw [add_block]; exact Kd.own_blk (Kd.R_ne HO177.out BK185.out (by decide))) | (show (Addr.add _ _).block ≠ _; rw [add_block]; exact Kd.own_blk (Kd.R_ne HO177.out BK185.out (by decide))) | (dsimp only; exact Kd.own_blk (Kd.R_ne HO177.out BK185.out (by decide)))) _).trans (((cell_far (p := ⟨gb185, _, none⟩) (by first | exact Kd.own_blk (Kd.R_ne HO177.out BK185.out (by decide)) | (rw [add_block]; exact Kd.own_blk (Kd.R_ne HO177.out BK185.out (by decide))) | (show (Addr.add _ _).block ≠ _; rw [add_block]; exact Kd.own_blk (Kd.R_ne HO177.out BK185.out (by decide))) | (dsimp only; exact Kd.own_blk (Kd.R_ne HO177.out BK185.out (by decide)))) _).trans (((cell_far (p := ⟨gb185, _, none⟩) (by first | exact Kd.own_blk (Kd.R_ne HO177.out BK185.out (by decide)) | (rw [add_block]; exact Kd.own_blk (Kd.R_ne HO177.out BK185.out (by decide))) | (show (Addr.add _ _).block ≠ _; rw [add_block]; exact Kd.own_blk (Kd.R_ne HO177.out BK185.out (by decide))) | (dsimp only; exact Kd.own_blk (Kd.R_ne HO177.out BK185.out (by decide)))) _).trans (((cell_far (p := ⟨gb185, _, none⟩) (by first | exact Kd.own_blk (Kd.R_ne HO177.out BK185.out (by decide)) | (rw [add_block]; exact Kd.own_blk (Kd.R_ne HO177.out BK185.out (by decide))) | (show (Addr.add _ _).block ≠ _; rw [add_block]; exact Kd.own_blk (Kd.R_ne HO177.out BK185.out (by decide))) | (dsimp only; exact Kd.own_blk (Kd.R_ne HO177.out BK185.out (by decide)))) _).trans (hHeld.2.2.2.2.2.2))))))))))))))⟩ (fun hHeld => ?_)
                      clear hK K
                      refine done_ (done_of HT_.out (by kernel_rfl)) ?_
                      go_upto_region 7 with (fail)
                      go_cut [41] (fun v41 wc => ∃ (kq : Nat) (x41_14 : Bool), v41 = .bool x41_14 ∧ Aside0 (head_Read.j0 kq a0 x41_14 (rd t174 1) (rd t174 2) (rd t174 3) (rd t174 4) (rd t174 7) (rd t174 8) (rd t174 9) = some (r1, r2, r3, r4, r5, r6, r7, r8)) ∧ Aside0 (kq ≤ k) ∧ Aside0 (wc.heap[gb173]? = some (.cells #[.int .i64 0, .int .i64 0, .int .i64 0, .int .i64 0, .int .i64 0, .int .i64 0, .int .i64 0] 34 (0, 0))) ∧ Aside0 (wc.heap[gb185]? = some (.cells #[.int .i64 (rd t174 1), .int .i64 (rd t174 2), .int .i64 (rd t174 3), .int .i64 (rd t174 4), .int .i64 (rd t174 7), .int .i64 (rd t174 8), .int .i64 (rd t174 9)] 34 (0, 0))) ∧ Aside0 (Below w.heap.size w wc))
                      case first =>
                        have H := HC15.out
                        clear HC15
                        by_cases c28 : 0 < (t174.length : Int)
                        · rw [if_pos c28] at H
                          have c28b0 : decide (0 < (t174.length : Int)) = true := decide_eq_true c28
                          have c28b1 : decide (0 < t174.length) = true := decide_eq_true (by omega)
                          clear c28
                          (first | rw [c28b0] | (simp only [i64_w, i32_w]; rw [c28b0]) | skip)
                          by_cases c29 : (rd t174 0) = 3490578157
                          · rw [if_pos c29] at H
                            have c29b0 : ((rd t174 0) == 3490578157) = true := beq_iff_eq.mpr c29
                            have c29b1 : ((rd t174 0) != 3490578157) = false := bne_eq_false_iff_eq.mpr c29
                            clear c29
                            by_cases c30 : 5 < (t174.length : Int)
                            · rw [if_pos c30] at H
                              have c30b0 : decide (5 < (t174.length : Int)) = true := decide_eq_true c30
                              have c30b1 : decide (5 < t174.length) = true := decide_eq_true (by omega)
                              clear c30
                              by_cases c31 : (rd t174 5) < 17
                              · rw [if_pos c31] at H
                                have c31b0 : decide ((rd t174 5) < 17) = true := decide_eq_true c31
                                clear c31
                                have H' := Aside0.mk H
                                clear H
                                have p186 : 0 ≤ (0 : Int) := (by omega)
                                have q186 : 0 < (t174.length : Int) := of_decide_eq_true (by first | (with_reducible assumption) | assumption)
                                obtain ⟨ad186, e186, hx186_0⟩ := Kd.at_int (Kd.R_reads' HO177.out).2.2 0 p186 q186
                                obtain rfl : ad178 = ad186 := (by injection e186)
                                have qi186 : (0 < t174.length) = True := eq_true (by omega)
                                (try rw [show ((0 : Int)).toNat = 0 from rfl] at hx186_0)
                                (try rw [Addr.add_zero'] at hx186_0)
                                have hn186_0 : ad178.block ≠ gb185 := Kd.own_blk (Kd.R_ne HO177.out BK185.out (by decide))
                                have hn186_1 : ad178.block ≠ gb185 := Kd.own_blk (Kd.R_ne HO177.out BK185.out (by decide))
                                have hn186_2 : ad178.block ≠ gb185 := Kd.own_blk (Kd.R_ne HO177.out BK185.out (by decide))
                                have hn186_3 : ad178.block ≠ gb185 := Kd.own_blk (Kd.R_ne HO177.out BK185.out (by decide))
                                have hn186_4 : ad178.block ≠ gb185 := Kd.own_blk (Kd.R_ne HO177.out BK185.out (by decide))
                                have hn186_5 : ad178.block ≠ gb185 := Kd.own_blk (Kd.R_ne HO177.out BK185.out (by decide))
                                have hn186_6 : ad178.block ≠ gb185 := Kd.own_blk (Kd.R_ne HO177.out BK185.out (by decide))
                                replace hx186_0 := (cell_far (p := ⟨gb185, 0, none⟩) (by first | (rw [add_block]; exact hn186_0) | (show (Addr.add _ _).block ≠ _; rw [add_block]; exact hn186_0) | exact hn186_0) (.int .i64 (rd t174 1))).trans hx186_0
                                replace hx186_0 := (cell_far (p := ⟨gb185, 1, none⟩) (by first | (rw [add_block]; exact hn186_1) | (show (Addr.add _ _).block ≠ _; rw [add_block]; exact hn186_1) | exact hn186_1) (.int .i64 (rd t174 2))).trans hx186_0
                                replace hx186_0 := (cell_far (p := ⟨gb185, 2, none⟩) (by first | (rw [add_block]; exact hn186_2) | (show (Addr.add _ _).block ≠ _; rw [add_block]; exact hn186_2) | exact hn186_2) (.int .i64 (rd t174 3))).trans hx186_0
                                replace hx186_0 := (cell_far (p := ⟨gb185, 3, none⟩) (by first | (rw [add_block]; exact hn186_3) | (show (Addr.add _ _).block ≠ _; rw [add_block]; exact hn186_3) | exact hn186_3) (.int .i64 (rd t174 4))).trans hx186_0
                                replace hx186_0 := (cell_far (p := ⟨gb185, 4, none⟩) (by first | (rw [add_block]; exact hn186_4) | (show (Addr.add _ _).block ≠ _; rw [add_block]; exact hn186_4) | exact hn186_4) (.int .i64 (rd t174 7))).trans hx186_0
                                replace hx186_0 := (cell_far (p := ⟨gb185, 5, none⟩) (by first | (rw [add_block]; exact hn186_5) | (show (Addr.add _ _).block ≠ _; rw [add_block]; exact hn186_5) | exact hn186_5) (.int .i64 (rd t174 8))).trans hx186_0
                                replace hx186_0 := (cell_far (p := ⟨gb185, 6, none⟩) (by first | (rw [add_block]; exact hn186_6) | (show (Addr.add _ _).block ≠ _; rw [add_block]; exact hn186_6) | exact hn186_6) (.int .i64 (rd t174 9))).trans hx186_0
                                clear hn186_0
                                clear hn186_1
                                clear hn186_2
                                clear hn186_3
                                clear hn186_4
                                clear hn186_5
                                clear hn186_6
                                replace p186 := eq_true p186
                                replace q186 := eq_true q186
                                have p187 : 0 ≤ (5 : Int) := (by omega)
                                have q187 : 5 < (t174.length : Int) := of_decide_eq_true (by first | (with_reducible assumption) | assumption)
                                obtain ⟨ad187, e187, hx187_0⟩ := Kd.at_int (Kd.R_reads' HO177.out).2.2 5 p187 q187
                                obtain rfl : ad178 = ad187 := (by injection e187)
                                (try simp only [show (5 : Int).toNat = 5 from rfl, Nat.reduceMul, Nat.reduceEqDiff, Go.Addr.add, ↓reduceIte] at hx187_0)
                                have qi187 : (5 < t174.length) = True := eq_true (by omega)
                                (try rw [show ((5 : Int)).toNat = 5 from rfl] at hx187_0)
                                have hn187_0 : ad178.block ≠ gb185 := Kd.own_blk (Kd.R_ne HO177.out BK185.out (by decide))
                                have hn187_1 : ad178.block ≠ gb185 := Kd.own_blk (Kd.R_ne HO177.out BK185.out (by decide))
                                have hn187_2 : ad178.block ≠ gb185 := Kd.own_blk (Kd.R_ne HO177.out BK185.out (by decide))
                                have hn187_3 : ad178.block ≠ gb185 := Kd.own_blk (Kd.R_ne HO177.out BK185.out (by decide))
                                have hn187_4 : ad178.block ≠ gb185 := Kd.own_blk (Kd.R_ne HO177.out BK185.out (by decide))
                                have hn187_5 : ad178.block ≠ gb185 := Kd.own_blk (Kd.R_ne HO177.out BK185.out (by decide))
                                have hn187_6 : ad178.block ≠ gb185 := Kd.own_blk (Kd.R_ne HO177.out BK185.out (by decide))
                                replace hx187_0 := (cell_far (p := ⟨gb185, 0, none⟩) (by first | (rw [add_block]; exact hn187_0) | (show (Addr.add _ _).block ≠ _; rw [add_block]; exact hn187_0) | exact hn187_0) (.int .i64 (rd t174 1))).trans hx187_0
                                replace hx187_0 := (cell_far (p := ⟨gb185, 1, none⟩) (by first | (rw [add_block]; exact hn187_1) | (show (Addr.add _ _).block ≠ _; rw [add_block]; exact hn187_1) | exact hn187_1) (.int .i64 (rd t174 2))).trans hx187_0
                                replace hx187_0 := (cell_far (p := ⟨gb185, 2, none⟩) (by first | (rw [add_block]; exact hn187_2) | (show (Addr.add _ _).block ≠ _; rw [add_block]; exact hn187_2) | exact hn187_2) (.int .i64 (rd t174 3))).trans hx187_0
                                replace hx187_0 := (cell_far (p := ⟨gb185, 3, none⟩) (by first | (rw [add_block]; exact hn187_3) | (show (Addr.add _ _).block ≠ _; rw [add_block]; exact hn187_3) | exact hn187_3) (.int .i64 (rd t174 4))).trans hx187_0
                                replace hx187_0 := (cell_far (p := ⟨gb185, 4, none⟩) (by first | (rw [add_block]; exact hn187_4) | (show (Addr.add _ _).block ≠ _; rw [add_block]; exact hn187_4) | exact hn187_4) (.int .i64 (rd t174 7))).trans hx187_0
                                replace hx187_0 := (cell_far (p := ⟨gb185, 5, none⟩) (by first | (rw [add_block]; exact hn187_5) | (show (Addr.add _ _).block ≠ _; rw [add_block]; exact hn187_5) | exact hn187_5) (.int .i64 (rd t174 8))).trans hx187_0
                                replace hx187_0 := (cell_far (p := ⟨gb185, 6, none⟩) (by first | (rw [add_block]; exact hn187_6) | (show (Addr.add _ _).block ≠ _; rw [add_block]; exact hn187_6) | exact hn187_6) (.int .i64 (rd t174 9))).trans hx187_0
                                clear hn187_0
                                clear hn187_1
                                clear hn187_2
                                clear hn187_3
                                clear hn187_4
                                clear hn187_5
                                clear hn187_6
                                replace p187 := eq_true p187
                                replace q187 := eq_true q187
                                go_wp2
                                go_meet
                                case rel => exact ⟨_, (true), (by first | rfl | (simp; done) | (simp [*]; done)), H', ⟨by first | omega | exact Nat.le_refl _⟩, ⟨by (with_reducible repeat (first | refine blk_drewN ?_ _ | refine blk_drew ?_ | refine blk_alloc ?_ _)); refine blk_far ?_ NB173_185.out _; (with_reducible repeat (first | refine blk_drewN ?_ _ | refine blk_drew ?_ | refine blk_alloc ?_ _)); refine blk_far ?_ NB173_185.out _; (with_reducible repeat (first | refine blk_drewN ?_ _ | refine blk_drew ?_ | refine blk_alloc ?_ _)); refine blk_far ?_ NB173_185.out _; (with_reducible repeat (first | refine blk_drewN ?_ _ | refine blk_drew ?_ | refine blk_alloc ?_ _)); refine blk_far ?_ NB173_185.out _; (with_reducible repeat (first | refine blk_drewN ?_ _ | refine blk_drew ?_ | refine blk_alloc ?_ _)); refine blk_far ?_ NB173_185.out _; (with_reducible repeat (first | refine blk_drewN ?_ _ | refine blk_drew ?_ | refine blk_alloc ?_ _)); refine blk_far ?_ NB173_185.out _; (with_reducible repeat (first | refine blk_drewN ?_ _ | refine blk_drew ?_ | refine blk_alloc ?_ _)); refine blk_far ?_ NB173_185.out _; (with_reducible repeat (first | refine blk_drewN ?_ _ | refine blk_drew ?_ | refine blk_alloc ?_ _)); exact BK173.out⟩, ⟨by (with_reducible repeat (first | refine blk_drewN ?_ _ | refine blk_drew ?_ | refine blk_alloc ?_ _)); refine blk_put (cs := #[.int .i64 (rd t174 1), .int .i64 (rd t174 2), .int .i64 (rd t174 3), .int .i64 (rd t174 4), .int .i64 (rd t174 7), .int .i64 (rd t174 8), .int .i64 0]) ?_ 6 _ rfl; (with_reducible repeat (first | refine blk_drewN ?_ _ | refine blk_drew ?_ | refine blk_alloc ?_ _)); refine blk_put (cs := #[.int .i64 (rd t174 1), .int .i64 (rd t174 2), .int .i64 (rd t174 3), .int .i64 (rd t174 4), .int .i64 (rd t174 7), .int .i64 0, .int .i64 0]) ?_ 5 _ rfl; (with_reducible repeat (first | refine blk_drewN ?_ _ | refine blk_drew ?_ | refine blk_alloc ?_ _)); refine blk_put (cs := #[.int .i64 (rd t174 1), .int .i64 (rd t174 2), .int .i64 (rd t174 3), .int .i64 (rd t174 4), .int .i64 0, .int .i64 0, .int .i64 0]) ?_ 4 _ rfl; (with_reducible repeat (first | refine blk_drewN ?_ _ | refine blk_drew ?_ | refine blk_alloc ?_ _)); refine blk_put (cs := #[.int .i64 (rd t174 1), .int .i64 (rd t174 2), .int .i64 (rd t174 3), .int .i64 0, .int .i64 0, .int .i64 0, .int .i64 0]) ?_ 3 _ rfl; (with_reducible repeat (first | refine blk_drewN ?_ _ | refine blk_drew ?_ | refine blk_alloc ?_ _)); refine blk_put (cs := #[.int .i64 (rd t174 1), .int .i64 (rd t174 2), .int .i64 0, .int .i64 0, .int .i64 0, .int .i64 0, .int .i64 0]) ?_ 2 _ rfl; (with_reducible repeat (first | refine blk_drewN ?_ _ | refine blk_drew ?_ | refine blk_alloc ?_ _)); refine blk_put (cs := #[.int .i64 (rd t174 1), .int .i64 0, .int .i64 0, .int .i64 0, .int .i64 0, .int .i64 0, .int .i64 0]) ?_ 1 _ rfl; (with_reducible repeat (first | refine blk_drewN ?_ _ | refine blk_drew ?_ | refine blk_alloc ?_ _)); refine blk_put (cs := #[.int .i64 0, .int .i64 0, .int .i64 0, .int .i64 0, .int .i64 0, .int .i64 0, .int .i64 0]) ?_ 0 _ rfl; (with_reducible repeat (first | refine blk_drewN ?_ _ | refine blk_drew ?_ | refine blk_alloc ?_ _)); exact BK185.out⟩, ⟨by repeat (first | (with_reducible first | exact HB.out | apply below_alloc | apply pw_below_drewN | apply below_drew1 | refine below_set ?_ GE173.out | refine below_set ?_ GE185.out) | exact HB.out)⟩⟩
                              · rw [if_neg c31] at H
                                have c31b0 : decide ((rd t174 5) < 17) = false := decide_eq_false c31
                                clear c31
                                by_cases c32 : 6 < (t174.length : Int)
                                · rw [if_pos c32] at H
                                  have c32b0 : decide (6 < (t174.length : Int)) = true := decide_eq_true c32
                                  have c32b1 : decide (6 < t174.length) = true := decide_eq_true (by omega)
                                  clear c32
                                  have H' := Aside0.mk H
                                  clear H
                                  have p186 : 0 ≤ (0 : Int) := (by omega)
                                  have q186 : 0 < (t174.length : Int) := of_decide_eq_true (by first | (with_reducible assumption) | assumption)
                                  obtain ⟨ad186, e186, hx186_0⟩ := Kd.at_int (Kd.R_reads' HO177.out).2.2 0 p186 q186
                                  obtain rfl : ad178 = ad186 := (by injection e186)
                                  have qi186 : (0 < t174.length) = True := eq_true (by omega)
                                  (try rw [show ((0 : Int)).toNat = 0 from rfl] at hx186_0)
                                  (try rw [Addr.add_zero'] at hx186_0)
                                  have hn186_0 : ad178.block ≠ gb185 := Kd.own_blk (Kd.R_ne HO177.out BK185.out (by decide))
                                  have hn186_1 : ad178.block ≠ gb185 := Kd.own_blk (Kd.R_ne HO177.out BK185.out (by decide))
                                  have hn186_2 : ad178.block ≠ gb185 := Kd.own_blk (Kd.R_ne HO177.out BK185.out (by decide))
                                  have hn186_3 : ad178.block ≠ gb185 := Kd.own_blk (Kd.R_ne HO177.out BK185.out (by decide))
                                  have hn186_4 : ad178.block ≠ gb185 := Kd.own_blk (Kd.R_ne HO177.out BK185.out (by decide))
                                  have hn186_5 : ad178.block ≠ gb185 := Kd.own_blk (Kd.R_ne HO177.out BK185.out (by decide))
                                  have hn186_6 : ad178.block ≠ gb185 := Kd.own_blk (Kd.R_ne HO177.out BK185.out (by decide))
                                  replace hx186_0 := (cell_far (p := ⟨gb185, 0, none⟩) (by first | (rw [add_block]; exact hn186_0) | (show (Addr.add _ _).block ≠ _; rw [add_block]; exact hn186_0) | exact hn186_0) (.int .i64 (rd t174 1))).trans hx186_0
                                  replace hx186_0 := (cell_far (p := ⟨gb185, 1, none⟩) (by first | (rw [add_block]; exact hn186_1) | (show (Addr.add _ _).block ≠ _; rw [add_block]; exact hn186_1) | exact hn186_1) (.int .i64 (rd t174 2))).trans hx186_0
                                  replace hx186_0 := (cell_far (p := ⟨gb185, 2, none⟩) (by first | (rw [add_block]; exact hn186_2) | (show (Addr.add _ _).block ≠ _; rw [add_block]; exact hn186_2) | exact hn186_2) (.int .i64 (rd t174 3))).trans hx186_0
                                  replace hx186_0 := (cell_far (p := ⟨gb185, 3, none⟩) (by first | (rw [add_block]; exact hn186_3) | (show (Addr.add _ _).block ≠ _; rw [add_block]; exact hn186_3) | exact hn186_3) (.int .i64 (rd t174 4))).trans hx186_0
                                  replace hx186_0 := (cell_far (p := ⟨gb185, 4, none⟩) (by first | (rw [add_block]; exact hn186_4) | (show (Addr.add _ _).block ≠ _; rw [add_block]; exact hn186_4) | exact hn186_4) (.int .i64 (rd t174 7))).trans hx186_0
                                  replace hx186_0 := (cell_far (p := ⟨gb185, 5, none⟩) (by first | (rw [add_block]; exact hn186_5) | (show (Addr.add _ _).block ≠ _; rw [add_block]; exact hn186_5) | exact hn186_5) (.int .i64 (rd t174 8))).trans hx186_0
                                  replace hx186_0 := (cell_far (p := ⟨gb185, 6, none⟩) (by first | (rw [add_block]; exact hn186_6) | (show (Addr.add _ _).block ≠ _; rw [add_block]; exact hn186_6) | exact hn186_6) (.int .i64 (rd t174 9))).trans hx186_0
                                  clear hn186_0
                                  clear hn186_1
                                  clear hn186_2
                                  clear hn186_3
                                  clear hn186_4
                                  clear hn186_5
                                  clear hn186_6
                                  replace p186 := eq_true p186
                                  replace q186 := eq_true q186
                                  have p187 : 0 ≤ (5 : Int) := (by omega)
                                  have q187 : 5 < (t174.length : Int) := of_decide_eq_true (by first | (with_reducible assumption) | assumption)
                                  obtain ⟨ad187, e187, hx187_0⟩ := Kd.at_int (Kd.R_reads' HO177.out).2.2 5 p187 q187
                                  obtain rfl : ad178 = ad187 := (by injection e187)
                                  (try simp only [show (5 : Int).toNat = 5 from rfl, Nat.reduceMul, Nat.reduceEqDiff, Go.Addr.add, ↓reduceIte] at hx187_0)
                                  have qi187 : (5 < t174.length) = True := eq_true (by omega)
                                  (try rw [show ((5 : Int)).toNat = 5 from rfl] at hx187_0)
                                  have hn187_0 : ad178.block ≠ gb185 := Kd.own_blk (Kd.R_ne HO177.out BK185.out (by decide))
                                  have hn187_1 : ad178.block ≠ gb185 := Kd.own_blk (Kd.R_ne HO177.out BK185.out (by decide))
                                  have hn187_2 : ad178.block ≠ gb185 := Kd.own_blk (Kd.R_ne HO177.out BK185.out (by decide))
                                  have hn187_3 : ad178.block ≠ gb185 := Kd.own_blk (Kd.R_ne HO177.out BK185.out (by decide))
                                  have hn187_4 : ad178.block ≠ gb185 := Kd.own_blk (Kd.R_ne HO177.out BK185.out (by decide))
                                  have hn187_5 : ad178.block ≠ gb185 := Kd.own_blk (Kd.R_ne HO177.out BK185.out (by decide))
                                  have hn187_6 : ad178.block ≠ gb185 := Kd.own_blk (Kd.R_ne HO177.out BK185.out (by decide))
                                  replace hx187_0 := (cell_far (p := ⟨gb185, 0, none⟩) (by first | (rw [add_block]; exact hn187_0) | (show (Addr.add _ _).block ≠ _; rw [add_block]; exact hn187_0) | exact hn187_0) (.int .i64 (rd t174 1))).trans hx187_0
                                  replace hx187_0 := (cell_far (p := ⟨gb185, 1, none⟩) (by first | (rw [add_block]; exact hn187_1) | (show (Addr.add _ _).block ≠ _; rw [add_block]; exact hn187_1) | exact hn187_1) (.int .i64 (rd t174 2))).trans hx187_0
                                  replace hx187_0 := (cell_far (p := ⟨gb185, 2, none⟩) (by first | (rw [add_block]; exact hn187_2) | (show (Addr.add _ _).block ≠ _; rw [add_block]; exact hn187_2) | exact hn187_2) (.int .i64 (rd t174 3))).trans hx187_0
                                  replace hx187_0 := (cell_far (p := ⟨gb185, 3, none⟩) (by first | (rw [add_block]; exact hn187_3) | (show (Addr.add _ _).block ≠ _; rw [add_block]; exact hn187_3) | exact hn187_3) (.int .i64 (rd t174 4))).trans hx187_0
                                  replace hx187_0 := (cell_far (p := ⟨gb185, 4, none⟩) (by first | (rw [add_block]; exact hn187_4) | (show (Addr.add _ _).block ≠ _; rw [add_block]; exact hn187_4) | exact hn187_4) (.int .i64 (rd t174 7))).trans hx187_0
                                  replace hx187_0 := (cell_far (p := ⟨gb185, 5, none⟩) (by first | (rw [add_block]; exact hn187_5) | (show (Addr.add _ _).block ≠ _; rw [add_block]; exact hn187_5) | exact hn187_5) (.int .i64 (rd t174 8))).trans hx187_0
                                  replace hx187_0 := (cell_far (p := ⟨gb185, 6, none⟩) (by first | (rw [add_block]; exact hn187_6) | (show (Addr.add _ _).block ≠ _; rw [add_block]; exact hn187_6) | exact hn187_6) (.int .i64 (rd t174 9))).trans hx187_0
                                  clear hn187_0
                                  clear hn187_1
                                  clear hn187_2
                                  clear hn187_3
                                  clear hn187_4
                                  clear hn187_5
                                  clear hn187_6
                                  replace p187 := eq_true p187
                                  replace q187 := eq_true q187
                                  have p188 : 0 ≤ (6 : Int) := (by omega)
                                  have q188 : 6 < (t174.length : Int) := of_decide_eq_true (by first | (with_reducible assumption) | assumption)
                                  obtain ⟨ad188, e188, hx188_0⟩ := Kd.at_int (Kd.R_reads' HO177.out).2.2 6 p188 q188
                                  obtain rfl : ad178 = ad188 := (by injection e188)
                                  (try simp only [show (6 : Int).toNat = 6 from rfl, Nat.reduceMul, Nat.reduceEqDiff, Go.Addr.add, ↓reduceIte] at hx188_0)
                                  have qi188 : (6 < t174.length) = True := eq_true (by omega)
                                  (try rw [show ((6 : Int)).toNat = 6 from rfl] at hx188_0)
                                  have hn188_0 : ad178.block ≠ gb185 := Kd.own_blk (Kd.R_ne HO177.out BK185.out (by decide))
                                  have hn188_1 : ad178.block ≠ gb185 := Kd.own_blk (Kd.R_ne HO177.out BK185.out (by decide))
                                  have hn188_2 : ad178.block ≠ gb185 := Kd.own_blk (Kd.R_ne HO177.out BK185.out (by decide))
                                  have hn188_3 : ad178.block ≠ gb185 := Kd.own_blk (Kd.R_ne HO177.out BK185.out (by decide))
                                  have hn188_4 : ad178.block ≠ gb185 := Kd.own_blk (Kd.R_ne HO177.out BK185.out (by decide))
                                  have hn188_5 : ad178.block ≠ gb185 := Kd.own_blk (Kd.R_ne HO177.out BK185.out (by decide))
                                  have hn188_6 : ad178.block ≠ gb185 := Kd.own_blk (Kd.R_ne HO177.out BK185.out (by decide))
                                  replace hx188_0 := (cell_far (p := ⟨gb185, 0, none⟩) (by first | (rw [add_block]; exact hn188_0) | (show (Addr.add _ _).block ≠ _; rw [add_block]; exact hn188_0) | exact hn188_0) (.int .i64 (rd t174 1))).trans hx188_0
                                  replace hx188_0 := (cell_far (p := ⟨gb185, 1, none⟩) (by first | (rw [add_block]; exact hn188_1) | (show (Addr.add _ _).block ≠ _; rw [add_block]; exact hn188_1) | exact hn188_1) (.int .i64 (rd t174 2))).trans hx188_0
                                  replace hx188_0 := (cell_far (p := ⟨gb185, 2, none⟩) (by first | (rw [add_block]; exact hn188_2) | (show (Addr.add _ _).block ≠ _; rw [add_block]; exact hn188_2) | exact hn188_2) (.int .i64 (rd t174 3))).trans hx188_0
                                  replace hx188_0 := (cell_far (p := ⟨gb185, 3, none⟩) (by first | (rw [add_block]; exact hn188_3) | (show (Addr.add _ _).block ≠ _; rw [add_block]; exact hn188_3) | exact hn188_3) (.int .i64 (rd t174 4))).trans hx188_0
                                  replace hx188_0 := (cell_far (p := ⟨gb185, 4, none⟩) (by first | (rw [add_block]; exact hn188_4) | (show (Addr.add _ _).block ≠ _; rw [add_block]; exact hn188_4) | exact hn188_4) (.int .i64 (rd t174 7))).trans hx188_0
                                  replace hx188_0 := (cell_far (p := ⟨gb185, 5, none⟩) (by first | (rw [add_block]; exact hn188_5) | (show (Addr.add _ _).block ≠ _; rw [add_block]; exact hn188_5) | exact hn188_5) (.int .i64 (rd t174 8))).trans hx188_0
                                  replace hx188_0 := (cell_far (p := ⟨gb185, 6, none⟩) (by first | (rw [add_block]; exact hn188_6) | (show (Addr.add _ _).block ≠ _; rw [add_block]; exact hn188_6) | exact hn188_6) (.int .i64 (rd t174 9))).trans hx188_0
                                  clear hn188_0
                                  clear hn188_1
                                  clear hn188_2
                                  clear hn188_3
                                  clear hn188_4
                                  clear hn188_5
                                  clear hn188_6
                                  replace p188 := eq_true p188
                                  replace q188 := eq_true q188
                                  go_wp2
                                  go_meet
                                  case rel => exact ⟨_, (decide ((rd t174 6) > 17)), (by first | rfl | (simp; done) | (simp [*]; done)), H', ⟨by first | omega | exact Nat.le_refl _⟩, ⟨by (with_reducible repeat (first | refine blk_drewN ?_ _ | refine blk_drew ?_ | refine blk_alloc ?_ _)); refine blk_far ?_ NB173_185.out _; (with_reducible repeat (first | refine blk_drewN ?_ _ | refine blk_drew ?_ | refine blk_alloc ?_ _)); refine blk_far ?_ NB173_185.out _; (with_reducible repeat (first | refine blk_drewN ?_ _ | refine blk_drew ?_ | refine blk_alloc ?_ _)); refine blk_far ?_ NB173_185.out _; (with_reducible repeat (first | refine blk_drewN ?_ _ | refine blk_drew ?_ | refine blk_alloc ?_ _)); refine blk_far ?_ NB173_185.out _; (with_reducible repeat (first | refine blk_drewN ?_ _ | refine blk_drew ?_ | refine blk_alloc ?_ _)); refine blk_far ?_ NB173_185.out _; (with_reducible repeat (first | refine blk_drewN ?_ _ | refine blk_drew ?_ | refine blk_alloc ?_ _)); refine blk_far ?_ NB173_185.out _; (with_reducible repeat (first | refine blk_drewN ?_ _ | refine blk_drew ?_ | refine blk_alloc ?_ _)); refine blk_far ?_ NB173_185.out _; (with_reducible repeat (first | refine blk_drewN ?_ _ | refine blk_drew ?_ | refine blk_alloc ?_ _)); exact BK173.out⟩, ⟨by (with_reducible repeat (first | refine blk_drewN ?_ _ | refine blk_drew ?_ | refine blk_alloc ?_ _)); refine blk_put (cs := #[.int .i64 (rd t174 1), .int .i64 (rd t174 2), .int .i64 (rd t174 3), .int .i64 (rd t174 4), .int .i64 (rd t174 7), .int .i64 (rd t174 8), .int .i64 0]) ?_ 6 _ rfl; (with_reducible repeat (first | refine blk_drewN ?_ _ | refine blk_drew ?_ | refine blk_alloc ?_ _)); refine blk_put (cs := #[.int .i64 (rd t174 1), .int .i64 (rd t174 2), .int .i64 (rd t174 3), .int .i64 (rd t174 4), .int .i64 (rd t174 7), .int .i64 0, .int .i64 0]) ?_ 5 _ rfl; (with_reducible repeat (first | refine blk_drewN ?_ _ | refine blk_drew ?_ | refine blk_alloc ?_ _)); refine blk_put (cs := #[.int .i64 (rd t174 1), .int .i64 (rd t174 2), .int .i64 (rd t174 3), .int .i64 (rd t174 4), .int .i64 0, .int .i64 0, .int .i64 0]) ?_ 4 _ rfl; (with_reducible repeat (first | refine blk_drewN ?_ _ | refine blk_drew ?_ | refine blk_alloc ?_ _)); refine blk_put (cs := #[.int .i64 (rd t174 1), .int .i64 (rd t174 2), .int .i64 (rd t174 3), .int .i64 0, .int .i64 0, .int .i64 0, .int .i64 0]) ?_ 3 _ rfl; (with_reducible repeat (first | refine blk_drewN ?_ _ | refine blk_drew ?_ | refine blk_alloc ?_ _)); refine blk_put (cs := #[.int .i64 (rd t174 1), .int .i64 (rd t174 2), .int .i64 0, .int .i64 0, .int .i64 0, .int .i64 0, .int .i64 0]) ?_ 2 _ rfl; (with_reducible repeat (first | refine blk_drewN ?_ _ | refine blk_drew ?_ | refine blk_alloc ?_ _)); refine blk_put (cs := #[.int .i64 (rd t174 1), .int .i64 0, .int .i64 0, .int .i64 0, .int .i64 0, .int .i64 0, .int .i64 0]) ?_ 1 _ rfl; (with_reducible repeat (first | refine blk_drewN ?_ _ | refine blk_drew ?_ | refine blk_alloc ?_ _)); refine blk_put (cs := #[.int .i64 0, .int .i64 0, .int .i64 0, .int .i64 0, .int .i64 0, .int .i64 0, .int .i64 0]) ?_ 0 _ rfl; (with_reducible repeat (first | refine blk_drewN ?_ _ | refine blk_drew ?_ | refine blk_alloc ?_ _)); exact BK185.out⟩, ⟨by repeat (first | (with_reducible first | exact HB.out | apply below_alloc | apply pw_below_drewN | apply below_drew1 | refine below_set ?_ GE173.out | refine below_set ?_ GE185.out) | exact HB.out)⟩⟩
                                · rw [if_neg c32] at H
                                  exact absurd H (by simp)
                            · rw [if_neg c30] at H
                              exact absurd H (by simp)
                          · rw [if_neg c29] at H
                            have c29b0 : ((rd t174 0) == 3490578157) = false := beq_eq_false_iff_ne.mpr c29
                            have c29b1 : ((rd t174 0) != 3490578157) = true := bne_iff_ne.mpr c29
                            have H' := Aside0.mk H
                            clear H
                            have p186 : 0 ≤ (0 : Int) := (by omega)
                            have q186 : 0 < (t174.length : Int) := of_decide_eq_true (by first | (with_reducible assumption) | assumption)
                            obtain ⟨ad186, e186, hx186_0⟩ := Kd.at_int (Kd.R_reads' HO177.out).2.2 0 p186 q186
                            obtain rfl : ad178 = ad186 := (by injection e186)
                            have qi186 : (0 < t174.length) = True := eq_true (by omega)
                            (try rw [show ((0 : Int)).toNat = 0 from rfl] at hx186_0)
                            (try rw [Addr.add_zero'] at hx186_0)
                            have hn186_0 : ad178.block ≠ gb185 := Kd.own_blk (Kd.R_ne HO177.out BK185.out (by decide))
                            have hn186_1 : ad178.block ≠ gb185 := Kd.own_blk (Kd.R_ne HO177.out BK185.out (by decide))
                            have hn186_2 : ad178.block ≠ gb185 := Kd.own_blk (Kd.R_ne HO177.out BK185.out (by decide))
                            have hn186_3 : ad178.block ≠ gb185 := Kd.own_blk (Kd.R_ne HO177.out BK185.out (by decide))
                            have hn186_4 : ad178.block ≠ gb185 := Kd.own_blk (Kd.R_ne HO177.out BK185.out (by decide))
                            have hn186_5 : ad178.block ≠ gb185 := Kd.own_blk (Kd.R_ne HO177.out BK185.out (by decide))
                            have hn186_6 : ad178.block ≠ gb185 := Kd.own_blk (Kd.R_ne HO177.out BK185.out (by decide))
                            replace hx186_0 := (cell_far (p := ⟨gb185, 0, none⟩) (by first | (rw [add_block]; exact hn186_0) | (show (Addr.add _ _).block ≠ _; rw [add_block]; exact hn186_0) | exact hn186_0) (.int .i64 (rd t174 1))).trans hx186_0
                            replace hx186_0 := (cell_far (p := ⟨gb185, 1, none⟩) (by first | (rw [add_block]; exact hn186_1) | (show (Addr.add _ _).block ≠ _; rw [add_block]; exact hn186_1) | exact hn186_1) (.int .i64 (rd t174 2))).trans hx186_0
                            replace hx186_0 := (cell_far (p := ⟨gb185, 2, none⟩) (by first | (rw [add_block]; exact hn186_2) | (show (Addr.add _ _).block ≠ _; rw [add_block]; exact hn186_2) | exact hn186_2) (.int .i64 (rd t174 3))).trans hx186_0
                            replace hx186_0 := (cell_far (p := ⟨gb185, 3, none⟩) (by first | (rw [add_block]; exact hn186_3) | (show (Addr.add _ _).block ≠ _; rw [add_block]; exact hn186_3) | exact hn186_3) (.int .i64 (rd t174 4))).trans hx186_0
                            replace hx186_0 := (cell_far (p := ⟨gb185, 4, none⟩) (by first | (rw [add_block]; exact hn186_4) | (show (Addr.add _ _).block ≠ _; rw [add_block]; exact hn186_4) | exact hn186_4) (.int .i64 (rd t174 7))).trans hx186_0
                            replace hx186_0 := (cell_far (p := ⟨gb185, 5, none⟩) (by first | (rw [add_block]; exact hn186_5) | (show (Addr.add _ _).block ≠ _; rw [add_block]; exact hn186_5) | exact hn186_5) (.int .i64 (rd t174 8))).trans hx186_0
                            replace hx186_0 := (cell_far (p := ⟨gb185, 6, none⟩) (by first | (rw [add_block]; exact hn186_6) | (show (Addr.add _ _).block ≠ _; rw [add_block]; exact hn186_6) | exact hn186_6) (.int .i64 (rd t174 9))).trans hx186_0
                            clear hn186_0
                            clear hn186_1
                            clear hn186_2
                            clear hn186_3
                            clear hn186_4
                            clear hn186_5
                            clear hn186_6
                            replace p186 := eq_true p186
                            replace q186 := eq_true q186
                            go_wp2
                            go_meet
                            case rel => exact ⟨_, (true), (by first | rfl | (simp; done) | (simp [*]; done)), H', ⟨by first | omega | exact Nat.le_refl _⟩, ⟨by (with_reducible repeat (first | refine blk_drewN ?_ _ | refine blk_drew ?_ | refine blk_alloc ?_ _)); refine blk_far ?_ NB173_185.out _; (with_reducible repeat (first | refine blk_drewN ?_ _ | refine blk_drew ?_ | refine blk_alloc ?_ _)); refine blk_far ?_ NB173_185.out _; (with_reducible repeat (first | refine blk_drewN ?_ _ | refine blk_drew ?_ | refine blk_alloc ?_ _)); refine blk_far ?_ NB173_185.out _; (with_reducible repeat (first | refine blk_drewN ?_ _ | refine blk_drew ?_ | refine blk_alloc ?_ _)); refine blk_far ?_ NB173_185.out _; (with_reducible repeat (first | refine blk_drewN ?_ _ | refine blk_drew ?_ | refine blk_alloc ?_ _)); refine blk_far ?_ NB173_185.out _; (with_reducible repeat (first | refine blk_drewN ?_ _ | refine blk_drew ?_ | refine blk_alloc ?_ _)); refine blk_far ?_ NB173_185.out _; (with_reducible repeat (first | refine blk_drewN ?_ _ | refine blk_drew ?_ | refine blk_alloc ?_ _)); refine blk_far ?_ NB173_185.out _; (with_reducible repeat (first | refine blk_drewN ?_ _ | refine blk_drew ?_ | refine blk_alloc ?_ _)); exact BK173.out⟩, ⟨by (with_reducible repeat (first | refine blk_drewN ?_ _ | refine blk_drew ?_ | refine blk_alloc ?_ _)); refine blk_put (cs := #[.int .i64 (rd t174 1), .int .i64 (rd t174 2), .int .i64 (rd t174 3), .int .i64 (rd t174 4), .int .i64 (rd t174 7), .int .i64 (rd t174 8), .int .i64 0]) ?_ 6 _ rfl; (with_reducible repeat (first | refine blk_drewN ?_ _ | refine blk_drew ?_ | refine blk_alloc ?_ _)); refine blk_put (cs := #[.int .i64 (rd t174 1), .int .i64 (rd t174 2), .int .i64 (rd t174 3), .int .i64 (rd t174 4), .int .i64 (rd t174 7), .int .i64 0, .int .i64 0]) ?_ 5 _ rfl; (with_reducible repeat (first | refine blk_drewN ?_ _ | refine blk_drew ?_ | refine blk_alloc ?_ _)); refine blk_put (cs := #[.int .i64 (rd t174 1), .int .i64 (rd t174 2), .int .i64 (rd t174 3), .int .i64 (rd t174 4), .int .i64 0, .int .i64 0, .int .i64 0]) ?_ 4 _ rfl; (with_reducible repeat (first | refine blk_drewN ?_ _ | refine blk_drew ?_ | refine blk_alloc ?_ _)); refine blk_put (cs := #[.int .i64 (rd t174 1), .int .i64 (rd t174 2), .int .i64 (rd t174 3), .int .i64 0, .int .i64 0, .int .i64 0, .int .i64 0]) ?_ 3 _ rfl; (with_reducible repeat (first | refine blk_drewN ?_ _ | refine blk_drew ?_ | refine blk_alloc ?_ _)); refine blk_put (cs := #[.int .i64 (rd t174 1), .int .i64 (rd t174 2), .int .i64 0, .int .i64 0, .int .i64 0, .int .i64 0, .int .i64 0]) ?_ 2 _ rfl; (with_reducible repeat (first | refine blk_drewN ?_ _ | refine blk_drew ?_ | refine blk_alloc ?_ _)); refine blk_put (cs := #[.int .i64 (rd t174 1), .int .i64 0, .int .i64 0, .int .i64 0, .int .i64 0, .int .i64 0, .int .i64 0]) ?_ 1 _ rfl; (with_reducible repeat (first | refine blk_drewN ?_ _ | refine blk_drew ?_ | refine blk_alloc ?_ _)); refine blk_put (cs := #[.int .i64 0, .int .i64 0, .int .i64 0, .int .i64 0, .int .i64 0, .int .i64 0, .int .i64 0]) ?_ 0 _ rfl; (with_reducible repeat (first | refine blk_drewN ?_ _ | refine blk_drew ?_ | refine blk_alloc ?_ _)); exact BK185.out⟩, ⟨by repeat (first | (with_reducible first | exact HB.out | apply below_alloc | apply pw_below_drewN | apply below_drew1 | refine below_set ?_ GE173.out | refine below_set ?_ GE185.out) | exact HB.out)⟩⟩
                        · rw [if_neg c28] at H
                          exact absurd H (by simp)
                      case rest =>
                        clear HC15
                        try clear c1
                        try clear p1
                        try clear q1
                        try clear hx1
                        try clear qi1
                        try clear c2
                        try clear p2
                        try clear c3
                        try clear c6
                        try clear c9
                        try clear c9b0
                        try clear c9b1
                        try clear c10
                        try clear c10b0
                        try clear c10b1
                        try clear c11
                        try clear c11b0
                        try clear c11b1
                        try clear c12
                        try clear c12b0
                        try clear c12b1
                        try clear c13
                        try clear c13b0
                        try clear c13b1
                        try clear c14
                        try clear c14b0
                        try clear c14b1
                        try clear p17
                        try clear q17
                        try clear hx17
                        try clear qi17
                        try clear p18
                        try clear q18
                        try clear hx18
                        try clear qi18
                        try clear c28
                        try clear c28b0
                        try clear c28b1
                        try clear c29
                        try clear c29b0
                        try clear c29b1
                        try clear c30
                        try clear c30b0
                        try clear c30b1
                        try clear c31
                        try clear c31b0
                        try clear c32
                        try clear c32b0
                        try clear c32b1
                        try clear hx178_0
                        try clear hx179_0
                        try clear hx180_0
                        try clear hx181_0
                        try clear hx182_0
                        try clear hx183_0
                        try clear hx184_0
                        try clear hx186_0
                        try clear hx187_0
                        try clear hx188_0
                        try clear p178
                        try clear p179
                        try clear p180
                        try clear p181
                        try clear p182
                        try clear p183
                        try clear p184
                        try clear p186
                        try clear p187
                        try clear p188
                        try clear q178
                        try clear q179
                        try clear q180
                        try clear q181
                        try clear q182
                        try clear q183
                        try clear q184
                        try clear q186
                        try clear q187
                        try clear q188
                        obtain ⟨kq, x41_14, rfl, HA, HJ14, BK173, BK185, HB⟩ := hcut
                        cases kq with
                        | zero => exact absurd HA.out (by simp [head_Read.j0])
                        | succ kj14 =>
                          have H := HA.out
                          clear HA
                          simp only [head_Read.j0] at H
                          by_cases c33 : x41_14 = true
                          · subst c33
                            have H1 : (some (0, 0, 0, 0, 0, 0, 0, 6)) = some (r1, r2, r3, r4, r5, r6, r7, r8) := by rw [if_pos rfl] at H; exact H
                            clear H
                            have H := H1
                            clear H1
                            simp only [Option.some.injEq, Prod.mk.injEq] at H
                            obtain ⟨rfl, rfl, rfl, rfl, rfl, rfl, rfl, rfl⟩ := H
                            have hnb34 := NB173_185.out
                            have hnc34 := NB185_173.out
                            have hcz35_0 : wc.cell? ⟨gb173, 0, none⟩ = some (.int .i64 0) := (blk_cell BK173.out 0).trans rfl
                            have hcz35_1 : wc.cell? ⟨gb173, 1, none⟩ = some (.int .i64 0) := (blk_cell BK173.out 1).trans rfl
                            have hcz35_2 : wc.cell? ⟨gb173, 2, none⟩ = some (.int .i64 0) := (blk_cell BK173.out 2).trans rfl
                            have hcz35_3 : wc.cell? ⟨gb173, 3, none⟩ = some (.int .i64 0) := (blk_cell BK173.out 3).trans rfl
                            have hcz35_4 : wc.cell? ⟨gb173, 4, none⟩ = some (.int .i64 0) := (blk_cell BK173.out 4).trans rfl
                            have hcz35_5 : wc.cell? ⟨gb173, 5, none⟩ = some (.int .i64 0) := (blk_cell BK173.out 5).trans rfl
                            have hcz35_6 : wc.cell? ⟨gb173, 6, none⟩ = some (.int .i64 0) := (blk_cell BK173.out 6).trans rfl
                            have hfz35_0 := blk_frozen BK173.out 0
                            have hfz35_1 := blk_frozen BK173.out 1
                            have hfz35_2 := blk_frozen BK173.out 2
                            have hfz35_3 := blk_frozen BK173.out 3
                            have hfz35_4 := blk_frozen BK173.out 4
                            have hfz35_5 := blk_frozen BK173.out 5
                            have hfz35_6 := blk_frozen BK173.out 6
                            go_wp2
                            refine bodyPost_ret (results_ct rfl _ _ gb173 34 #[.int .i64 0, .int .i64 0, .int .i64 0, .int .i64 0, .int .i64 0, .int .i64 0, .int .i64 0] (0, 0) _ rfl (by (with_reducible repeat (first | refine blk_drewN ?_ _ | refine blk_drew ?_ | refine blk_alloc ?_ _)); refine blk_put (cs := #[.int .i64 0, .int .i64 0, .int .i64 0, .int .i64 0, .int .i64 0, .int .i64 0, .int .i64 0]) ?_ 6 _ rfl; (with_reducible repeat (first | refine blk_drewN ?_ _ | refine blk_drew ?_ | refine blk_alloc ?_ _)); refine blk_put (cs := #[.int .i64 0, .int .i64 0, .int .i64 0, .int .i64 0, .int .i64 0, .int .i64 0, .int .i64 0]) ?_ 5 _ rfl; (with_reducible repeat (first | refine blk_drewN ?_ _ | refine blk_drew ?_ | refine blk_alloc ?_ _)); refine blk_put (cs := #[.int .i64 0, .int .i64 0, .int .i64 0, .int .i64 0, .int .i64 0, .int .i64 0, .int .i64 0]) ?_ 4 _ rfl; (with_reducible repeat (first | refine blk_drewN ?_ _ | refine blk_drew ?_ | refine blk_alloc ?_ _)); refine blk_put (cs := #[.int .i64 0, .int .i64 0, .int .i64 0, .int .i64 0, .int .i64 0, .int .i64 0, .int .i64 0]) ?_ 3 _ rfl; (with_reducible repeat (first | refine blk_drewN ?_ _ | refine blk_drew ?_ | refine blk_alloc ?_ _)); refine blk_put (cs := #[.int .i64 0, .int .i64 0, .int .i64 0, .int .i64 0, .int .i64 0, .int .i64 0, .int .i64 0]) ?_ 2 _ rfl; (with_reducible repeat (first | refine blk_drewN ?_ _ | refine blk_drew ?_ | refine blk_alloc ?_ _)); refine blk_put (cs := #[.int .i64 0, .int .i64 0, .int .i64 0, .int .i64 0, .int .i64 0, .int .i64 0, .int .i64 0]) ?_ 1 _ rfl; (with_reducible repeat (first | refine blk_drewN ?_ _ | refine blk_drew ?_ | refine blk_alloc ?_ _)); refine blk_put (cs := #[.int .i64 0, .int .i64 0, .int .i64 0, .int .i64 0, .int .i64 0, .int .i64 0, .int .i64 0]) ?_ 0 _ rfl; (with_reducible repeat (first | refine blk_drewN ?_ _ | refine blk_drew ?_ | refine blk_alloc ?_ _)); exact BK173.out) Try.underlying34 rfl (by kernel_rfl)) rfl ?_
                            exact ⟨by first | rfl | (simp [errW_none, errW_some] <;> rfl) | (simp [*, errW_none, errW_some] <;> rfl), by repeat (first | (with_reducible first | exact HB.out | apply below_alloc | apply pw_below_drewN | apply below_drew1 | refine below_set ?_ GE173.out | refine below_set ?_ GE185.out) | exact HB.out)⟩
                          · replace c33 := Bool.eq_false_iff.mpr c33
                            subst c33
                            have H1 : (if (rd t174 1) > 16384 then (some (0, 0, 0, 0, 0, 0, 0, 7)) else ((head_may.f (rd t174 1) (rd t174 2) (rd t174 3) (rd t174 4) (rd t174 7) (rd t174 8) (rd t174 9)).bind fun t189 => (if t189 = true then (if (a0.size : Int) < (rd t174 1) then (some (0, 0, 0, 0, 0, 0, 0, 14)) else (some ((rd t174 1), (rd t174 2), (rd t174 3), (rd t174 4), (rd t174 7), (rd t174 8), (rd t174 9), 0))) else (some (0, 0, 0, 0, 0, 0, 0, 6))))) = some (r1, r2, r3, r4, r5, r6, r7, r8) := by rw [if_neg (show ¬ (false = true) by decide)] at H; exact H
                            clear H
                            have H := H1
                            clear H1
                            by_cases c36 : (rd t174 1) > 16384
                            · rw [if_pos c36] at H
                              have c36b0 : decide (16384 < (rd t174 1)) = true := decide_eq_true c36
                              clear c36
                              simp only [Option.some.injEq, Prod.mk.injEq] at H
                              obtain ⟨rfl, rfl, rfl, rfl, rfl, rfl, rfl, rfl⟩ := H
                              have hnb37 := NB185_173.out
                              have hnc37 := NB173_185.out
                              have hcz38_0 : wc.cell? ⟨gb185, 0, none⟩ = some (.int .i64 (rd t174 1)) := (blk_cell BK185.out 0).trans rfl
                              have hcz38_1 : wc.cell? ⟨gb185, 1, none⟩ = some (.int .i64 (rd t174 2)) := (blk_cell BK185.out 1).trans rfl
                              have hcz38_2 : wc.cell? ⟨gb185, 2, none⟩ = some (.int .i64 (rd t174 3)) := (blk_cell BK185.out 2).trans rfl
                              have hcz38_3 : wc.cell? ⟨gb185, 3, none⟩ = some (.int .i64 (rd t174 4)) := (blk_cell BK185.out 3).trans rfl
                              have hcz38_4 : wc.cell? ⟨gb185, 4, none⟩ = some (.int .i64 (rd t174 7)) := (blk_cell BK185.out 4).trans rfl
                              have hcz38_5 : wc.cell? ⟨gb185, 5, none⟩ = some (.int .i64 (rd t174 8)) := (blk_cell BK185.out 5).trans rfl
                              have hcz38_6 : wc.cell? ⟨gb185, 6, none⟩ = some (.int .i64 (rd t174 9)) := (blk_cell BK185.out 6).trans rfl
                              have hfz38_0 := blk_frozen BK185.out 0
                              have hfz38_1 := blk_frozen BK185.out 1
                              have hfz38_2 := blk_frozen BK185.out 2
                              have hfz38_3 := blk_frozen BK185.out 3
                              have hfz38_4 := blk_frozen BK185.out 4
                              have hfz38_5 := blk_frozen BK185.out 5
                              have hfz38_6 := blk_frozen BK185.out 6
                              have hcz39_0 : wc.cell? ⟨gb173, 0, none⟩ = some (.int .i64 0) := (blk_cell BK173.out 0).trans rfl
                              have hcz39_1 : wc.cell? ⟨gb173, 1, none⟩ = some (.int .i64 0) := (blk_cell BK173.out 1).trans rfl
                              have hcz39_2 : wc.cell? ⟨gb173, 2, none⟩ = some (.int .i64 0) := (blk_cell BK173.out 2).trans rfl
                              have hcz39_3 : wc.cell? ⟨gb173, 3, none⟩ = some (.int .i64 0) := (blk_cell BK173.out 3).trans rfl
                              have hcz39_4 : wc.cell? ⟨gb173, 4, none⟩ = some (.int .i64 0) := (blk_cell BK173.out 4).trans rfl
                              have hcz39_5 : wc.cell? ⟨gb173, 5, none⟩ = some (.int .i64 0) := (blk_cell BK173.out 5).trans rfl
                              have hcz39_6 : wc.cell? ⟨gb173, 6, none⟩ = some (.int .i64 0) := (blk_cell BK173.out 6).trans rfl
                              have hfz39_0 := blk_frozen BK173.out 0
                              have hfz39_1 := blk_frozen BK173.out 1
                              have hfz39_2 := blk_frozen BK173.out 2
                              have hfz39_3 := blk_frozen BK173.out 3
                              have hfz39_4 := blk_frozen BK173.out 4
                              have hfz39_5 := blk_frozen BK173.out 5
                              have hfz39_6 := blk_frozen BK173.out 6
                              go_wp2
                              refine bodyPost_ret (results_ct rfl _ _ gb173 34 #[.int .i64 0, .int .i64 0, .int .i64 0, .int .i64 0, .int .i64 0, .int .i64 0, .int .i64 0] (0, 0) _ rfl (by (with_reducible repeat (first | refine blk_drewN ?_ _ | refine blk_drew ?_ | refine blk_alloc ?_ _)); refine blk_put (cs := #[.int .i64 0, .int .i64 0, .int .i64 0, .int .i64 0, .int .i64 0, .int .i64 0, .int .i64 0]) ?_ 6 _ rfl; (with_reducible repeat (first | refine blk_drewN ?_ _ | refine blk_drew ?_ | refine blk_alloc ?_ _)); refine blk_put (cs := #[.int .i64 0, .int .i64 0, .int .i64 0, .int .i64 0, .int .i64 0, .int .i64 0, .int .i64 0]) ?_ 5 _ rfl; (with_reducible repeat (first | refine blk_drewN ?_ _ | refine blk_drew ?_ | refine blk_alloc ?_ _)); refine blk_put (cs := #[.int .i64 0, .int .i64 0, .int .i64 0, .int .i64 0, .int .i64 0, .int .i64 0, .int .i64 0]) ?_ 4 _ rfl; (with_reducible repeat (first | refine blk_drewN ?_ _ | refine blk_drew ?_ | refine blk_alloc ?_ _)); refine blk_put (cs := #[.int .i64 0, .int .i64 0, .int .i64 0, .int .i64 0, .int .i64 0, .int .i64 0, .int .i64 0]) ?_ 3 _ rfl; (with_reducible repeat (first | refine blk_drewN ?_ _ | refine blk_drew ?_ | refine blk_alloc ?_ _)); refine blk_put (cs := #[.int .i64 0, .int .i64 0, .int .i64 0, .int .i64 0, .int .i64 0, .int .i64 0, .int .i64 0]) ?_ 2 _ rfl; (with_reducible repeat (first | refine blk_drewN ?_ _ | refine blk_drew ?_ | refine blk_alloc ?_ _)); refine blk_put (cs := #[.int .i64 0, .int .i64 0, .int .i64 0, .int .i64 0, .int .i64 0, .int .i64 0, .int .i64 0]) ?_ 1 _ rfl; (with_reducible repeat (first | refine blk_drewN ?_ _ | refine blk_drew ?_ | refine blk_alloc ?_ _)); refine blk_put (cs := #[.int .i64 0, .int .i64 0, .int .i64 0, .int .i64 0, .int .i64 0, .int .i64 0, .int .i64 0]) ?_ 0 _ rfl; (with_reducible repeat (first | refine blk_drewN ?_ _ | refine blk_drew ?_ | refine blk_alloc ?_ _)); exact BK173.out) Try.underlying34 rfl (by kernel_rfl)) rfl ?_
                              exact ⟨by first | rfl | (simp [errW_none, errW_some] <;> rfl) | (simp [*, errW_none, errW_some] <;> rfl), by repeat (first | (with_reducible first | exact HB.out | apply below_alloc | apply pw_below_drewN | apply below_drew1 | refine below_set ?_ GE173.out | refine below_set ?_ GE185.out) | exact HB.out)⟩
                            · rw [if_neg c36] at H
                              have c36b0 : decide (16384 < (rd t174 1)) = false := decide_eq_false c36
                              clear c36
                              replace H := Option.bind_eq_some_iff.mp H
                              obtain ⟨t189, A400, H⟩ := H
                              replace H : (if t189 = true then (if (a0.size : Int) < (rd t174 1) then (some (0, 0, 0, 0, 0, 0, 0, 14)) else (some ((rd t174 1), (rd t174 2), (rd t174 3), (rd t174 4), (rd t174 7), (rd t174 8), (rd t174 9), 0))) else (some (0, 0, 0, 0, 0, 0, 0, 6))) = some (r1, r2, r3, r4, r5, r6, r7, r8) := H
                              have A40 := Aside0.mk A400
                              clear A400
                              by_cases c41 : t189 = true
                              · subst c41
                                have H1 : (if (a0.size : Int) < (rd t174 1) then (some (0, 0, 0, 0, 0, 0, 0, 14)) else (some ((rd t174 1), (rd t174 2), (rd t174 3), (rd t174 4), (rd t174 7), (rd t174 8), (rd t174 9), 0))) = some (r1, r2, r3, r4, r5, r6, r7, r8) := by rw [if_pos rfl] at H; exact H
                                clear H
                                have H := H1
                                clear H1
                                by_cases c42 : (a0.size : Int) < (rd t174 1)
                                · rw [if_pos c42] at H
                                  have c42b0 : decide ((a0.size : Int) < (rd t174 1)) = true := decide_eq_true c42
                                  clear c42
                                  simp only [Option.some.injEq, Prod.mk.injEq] at H
                                  obtain ⟨rfl, rfl, rfl, rfl, rfl, rfl, rfl, rfl⟩ := H
                                  have hnb43 := NB185_173.out
                                  have hnc43 := NB173_185.out
                                  have hcz44_0 : wc.cell? ⟨gb185, 0, none⟩ = some (.int .i64 (rd t174 1)) := (blk_cell BK185.out 0).trans rfl
                                  have hcz44_1 : wc.cell? ⟨gb185, 1, none⟩ = some (.int .i64 (rd t174 2)) := (blk_cell BK185.out 1).trans rfl
                                  have hcz44_2 : wc.cell? ⟨gb185, 2, none⟩ = some (.int .i64 (rd t174 3)) := (blk_cell BK185.out 2).trans rfl
                                  have hcz44_3 : wc.cell? ⟨gb185, 3, none⟩ = some (.int .i64 (rd t174 4)) := (blk_cell BK185.out 3).trans rfl
                                  have hcz44_4 : wc.cell? ⟨gb185, 4, none⟩ = some (.int .i64 (rd t174 7)) := (blk_cell BK185.out 4).trans rfl
                                  have hcz44_5 : wc.cell? ⟨gb185, 5, none⟩ = some (.int .i64 (rd t174 8)) := (blk_cell BK185.out 5).trans rfl
                                  have hcz44_6 : wc.cell? ⟨gb185, 6, none⟩ = some (.int .i64 (rd t174 9)) := (blk_cell BK185.out 6).trans rfl
                                  have hfz44_0 := blk_frozen BK185.out 0
                                  have hfz44_1 := blk_frozen BK185.out 1
                                  have hfz44_2 := blk_frozen BK185.out 2
                                  have hfz44_3 := blk_frozen BK185.out 3
                                  have hfz44_4 := blk_frozen BK185.out 4
                                  have hfz44_5 := blk_frozen BK185.out 5
                                  have hfz44_6 := blk_frozen BK185.out 6
                                  go_wp2_with (first | ((with_reducible refine gate_callee (f := 57) rfl ?_); refine goesL_ (some 64) rfl rfl Try.func57 (by kernel_rfl) rfl #[.agg #[.int .i64 (rd t174 1), .int .i64 (rd t174 2), .int .i64 (rd t174 3), .int .i64 (rd t174 4), .int .i64 (rd t174 7), .int .i64 (rd t174 8), .int .i64 (rd t174 9)]] rfl (by (try simp only [List.map_toArray, List.map_cons, List.map_nil]); first | done | rfl | (simp only [List.length_drop, List.length_take]; rfl)) ?_; (with_reducible refine (head_may.calls (rd t174 1) (rd t174 2) (rd t174 3) (rd t174 4) (rd t174 7) (rd t174 8) (rd t174 9) true _ A40.out).mono ?_); rintro e w45 ⟨rfl, hb⟩; refine ⟨_, rfl, ?_⟩; have n0_ := Aside0.mk (blk_below (g := gb173) (o := .cells #[.int .i64 0, .int .i64 0, .int .i64 0, .int .i64 0, .int .i64 0, .int .i64 0, .int .i64 0] 34 (0, 0)) (by (with_reducible repeat (first | refine blk_drewN ?_ _ | refine blk_drew ?_ | refine blk_alloc ?_ _)); exact BK173.out) hb); have n1_ := Aside0.mk (blk_below (g := gb185) (o := .cells #[.int .i64 (rd t174 1), .int .i64 (rd t174 2), .int .i64 (rd t174 3), .int .i64 (rd t174 4), .int .i64 (rd t174 7), .int .i64 (rd t174 8), .int .i64 (rd t174 9)] 34 (0, 0)) (by (with_reducible repeat (first | refine blk_drewN ?_ _ | refine blk_drew ?_ | refine blk_alloc ?_ _)); exact BK185.out) hb); have n2_ := Aside0.mk (below_step (by repeat (first | (with_reducible first | exact HB.out | apply below_alloc | apply pw_below_drewN | apply below_drew1 | refine below_set ?_ GE173.out | refine below_set ?_ GE185.out) | exact HB.out)) hb); clear BK173; clear BK185; clear HB; have BK173 := n0_; have BK185 := n1_; have HB := n2_; clear n0_ n1_ n2_; (try clear hb); (try clear hb2); (try clear hk); (try clear hi); have hcz46_0 : w45.cell? ⟨gb185, 0, none⟩ = some (.int .i64 (rd t174 1)) := (blk_cell BK185.out 0).trans rfl; have hcz46_1 : w45.cell? ⟨gb185, 1, none⟩ = some (.int .i64 (rd t174 2)) := (blk_cell BK185.out 1).trans rfl; have hcz46_2 : w45.cell? ⟨gb185, 2, none⟩ = some (.int .i64 (rd t174 3)) := (blk_cell BK185.out 2).trans rfl; have hcz46_3 : w45.cell? ⟨gb185, 3, none⟩ = some (.int .i64 (rd t174 4)) := (blk_cell BK185.out 3).trans rfl; have hcz46_4 : w45.cell? ⟨gb185, 4, none⟩ = some (.int .i64 (rd t174 7)) := (blk_cell BK185.out 4).trans rfl; have hcz46_5 : w45.cell? ⟨gb185, 5, none⟩ = some (.int .i64 (rd t174 8)) := (blk_cell BK185.out 5).trans rfl; have hcz46_6 : w45.cell? ⟨gb185, 6, none⟩ = some (.int .i64 (rd t174 9)) := (blk_cell BK185.out 6).trans rfl; have hfz46_0 := blk_frozen BK185.out 0; have hfz46_1 := blk_frozen BK185.out 1; have hfz46_2 := blk_frozen BK185.out 2; have hfz46_3 := blk_frozen BK185.out 3; have hfz46_4 := blk_frozen BK185.out 4; have hfz46_5 := blk_frozen BK185.out 5; have hfz46_6 := blk_frozen BK185.out 6; have hcz47_0 : w45.cell? ⟨gb173, 0, none⟩ = some (.int .i64 0) := (blk_cell BK173.out 0).trans rfl; have hcz47_1 : w45.cell? ⟨gb173, 1, none⟩ = some (.int .i64 0) := (blk_cell BK173.out 1).trans rfl; have hcz47_2 : w45.cell? ⟨gb173, 2, none⟩ = some (.int .i64 0) := (blk_cell BK173.out 2).trans rfl; have hcz47_3 : w45.cell? ⟨gb173, 3, none⟩ = some (.int .i64 0) := (blk_cell BK173.out 3).trans rfl; have hcz47_4 : w45.cell? ⟨gb173, 4, none⟩ = some (.int .i64 0) := (blk_cell BK173.out 4).trans rfl; have hcz47_5 : w45.cell? ⟨gb173, 5, none⟩ = some (.int .i64 0) := (blk_cell BK173.out 5).trans rfl; have hcz47_6 : w45.cell? ⟨gb173, 6, none⟩ = some (.int .i64 0) := (blk_cell BK173.out 6).trans rfl; have hfz47_0 := blk_frozen BK173.out 0; have hfz47_1 := blk_frozen BK173.out 1; have hfz47_2 := blk_frozen BK173.out 2; have hfz47_3 := blk_frozen BK173.out 3; have hfz47_4 := blk_frozen BK173.out 4; have hfz47_5 := blk_frozen BK173.out 5; have hfz47_6 := blk_frozen BK173.out 6))
                                  refine bodyPost_ret (results_ct rfl _ _ gb173 34 #[.int .i64 0, .int .i64 0, .int .i64 0, .int .i64 0, .int .i64 0, .int .i64 0, .int .i64 0] (0, 0) _ rfl (by (with_reducible repeat (first | refine blk_drewN ?_ _ | refine blk_drew ?_ | refine blk_alloc ?_ _)); refine blk_put (cs := #[.int .i64 0, .int .i64 0, .int .i64 0, .int .i64 0, .int .i64 0, .int .i64 0, .int .i64 0]) ?_ 6 _ rfl; (with_reducible repeat (first | refine blk_drewN ?_ _ | refine blk_drew ?_ | refine blk_alloc ?_ _)); refine blk_put (cs := #[.int .i64 0, .int .i64 0, .int .i64 0, .int .i64 0, .int .i64 0, .int .i64 0, .int .i64 0]) ?_ 5 _ rfl; (with_reducible repeat (first | refine blk_drewN ?_ _ | refine blk_drew ?_ | refine blk_alloc ?_ _)); refine blk_put (cs := #[.int .i64 0, .int .i64 0, .int .i64 0, .int .i64 0, .int .i64 0, .int .i64 0, .int .i64 0]) ?_ 4 _ rfl; (with_reducible repeat (first | refine blk_drewN ?_ _ | refine blk_drew ?_ | refine blk_alloc ?_ _)); refine blk_put (cs := #[.int .i64 0, .int .i64 0, .int .i64 0, .int .i64 0, .int .i64 0, .int .i64 0, .int .i64 0]) ?_ 3 _ rfl; (with_reducible repeat (first | refine blk_drewN ?_ _ | refine blk_drew ?_ | refine blk_alloc ?_ _)); refine blk_put (cs := #[.int .i64 0, .int .i64 0, .int .i64 0, .int .i64 0, .int .i64 0, .int .i64 0, .int .i64 0]) ?_ 2 _ rfl; (with_reducible repeat (first | refine blk_drewN ?_ _ | refine blk_drew ?_ | refine blk_alloc ?_ _)); refine blk_put (cs := #[.int .i64 0, .int .i64 0, .int .i64 0, .int .i64 0, .int .i64 0, .int .i64 0, .int .i64 0]) ?_ 1 _ rfl; (with_reducible repeat (first | refine blk_drewN ?_ _ | refine blk_drew ?_ | refine blk_alloc ?_ _)); refine blk_put (cs := #[.int .i64 0, .int .i64 0, .int .i64 0, .int .i64 0, .int .i64 0, .int .i64 0, .int .i64 0]) ?_ 0 _ rfl; (with_reducible repeat (first | refine blk_drewN ?_ _ | refine blk_drew ?_ | refine blk_alloc ?_ _)); exact BK173.out) Try.underlying34 rfl (by kernel_rfl)) rfl ?_
                                  exact ⟨by first | rfl | (simp [errW_none, errW_some] <;> rfl) | (simp [*, errW_none, errW_some] <;> rfl), by repeat (first | (with_reducible first | exact HB.out | apply below_alloc | apply pw_below_drewN | apply below_drew1 | refine below_set ?_ GE173.out | refine below_set ?_ GE185.out) | exact HB.out)⟩
                                · rw [if_neg c42] at H
                                  have c42b0 : decide ((a0.size : Int) < (rd t174 1)) = false := decide_eq_false c42
                                  clear c42
                                  simp only [Option.some.injEq, Prod.mk.injEq] at H
                                  obtain ⟨rfl, rfl, rfl, rfl, rfl, rfl, rfl, rfl⟩ := H
                                  have hnb48 := NB185_173.out
                                  have hnc48 := NB173_185.out
                                  have hcz49_0 : wc.cell? ⟨gb185, 0, none⟩ = some (.int .i64 (rd t174 1)) := (blk_cell BK185.out 0).trans rfl
                                  have hcz49_1 : wc.cell? ⟨gb185, 1, none⟩ = some (.int .i64 (rd t174 2)) := (blk_cell BK185.out 1).trans rfl
                                  have hcz49_2 : wc.cell? ⟨gb185, 2, none⟩ = some (.int .i64 (rd t174 3)) := (blk_cell BK185.out 2).trans rfl
                                  have hcz49_3 : wc.cell? ⟨gb185, 3, none⟩ = some (.int .i64 (rd t174 4)) := (blk_cell BK185.out 3).trans rfl
                                  have hcz49_4 : wc.cell? ⟨gb185, 4, none⟩ = some (.int .i64 (rd t174 7)) := (blk_cell BK185.out 4).trans rfl
                                  have hcz49_5 : wc.cell? ⟨gb185, 5, none⟩ = some (.int .i64 (rd t174 8)) := (blk_cell BK185.out 5).trans rfl
                                  have hcz49_6 : wc.cell? ⟨gb185, 6, none⟩ = some (.int .i64 (rd t174 9)) := (blk_cell BK185.out 6).trans rfl
                                  have hfz49_0 := blk_frozen BK185.out 0
                                  have hfz49_1 := blk_frozen BK185.out 1
                                  have hfz49_2 := blk_frozen BK185.out 2
                                  have hfz49_3 := blk_frozen BK185.out 3
                                  have hfz49_4 := blk_frozen BK185.out 4
                                  have hfz49_5 := blk_frozen BK185.out 5
                                  have hfz49_6 := blk_frozen BK185.out 6
                                  go_wp2_with (first | ((with_reducible refine gate_callee (f := 57) rfl ?_); refine goesL_ (some 64) rfl rfl Try.func57 (by kernel_rfl) rfl #[.agg #[.int .i64 (rd t174 1), .int .i64 (rd t174 2), .int .i64 (rd t174 3), .int .i64 (rd t174 4), .int .i64 (rd t174 7), .int .i64 (rd t174 8), .int .i64 (rd t174 9)]] rfl (by (try simp only [List.map_toArray, List.map_cons, List.map_nil]); first | done | rfl | (simp only [List.length_drop, List.length_take]; rfl)) ?_; (with_reducible refine (head_may.calls (rd t174 1) (rd t174 2) (rd t174 3) (rd t174 4) (rd t174 7) (rd t174 8) (rd t174 9) true _ A40.out).mono ?_); rintro e w50 ⟨rfl, hb⟩; refine ⟨_, rfl, ?_⟩; have n0_ := Aside0.mk (blk_below (g := gb173) (o := .cells #[.int .i64 0, .int .i64 0, .int .i64 0, .int .i64 0, .int .i64 0, .int .i64 0, .int .i64 0] 34 (0, 0)) (by (with_reducible repeat (first | refine blk_drewN ?_ _ | refine blk_drew ?_ | refine blk_alloc ?_ _)); exact BK173.out) hb); have n1_ := Aside0.mk (blk_below (g := gb185) (o := .cells #[.int .i64 (rd t174 1), .int .i64 (rd t174 2), .int .i64 (rd t174 3), .int .i64 (rd t174 4), .int .i64 (rd t174 7), .int .i64 (rd t174 8), .int .i64 (rd t174 9)] 34 (0, 0)) (by (with_reducible repeat (first | refine blk_drewN ?_ _ | refine blk_drew ?_ | refine blk_alloc ?_ _)); exact BK185.out) hb); have n2_ := Aside0.mk (below_step (by repeat (first | (with_reducible first | exact HB.out | apply below_alloc | apply pw_below_drewN | apply below_drew1 | refine below_set ?_ GE173.out | refine below_set ?_ GE185.out) | exact HB.out)) hb); clear BK173; clear BK185; clear HB; have BK173 := n0_; have BK185 := n1_; have HB := n2_; clear n0_ n1_ n2_; (try clear hb); (try clear hb2); (try clear hk); (try clear hi); have hcz51_0 : w50.cell? ⟨gb185, 0, none⟩ = some (.int .i64 (rd t174 1)) := (blk_cell BK185.out 0).trans rfl; have hcz51_1 : w50.cell? ⟨gb185, 1, none⟩ = some (.int .i64 (rd t174 2)) := (blk_cell BK185.out 1).trans rfl; have hcz51_2 : w50.cell? ⟨gb185, 2, none⟩ = some (.int .i64 (rd t174 3)) := (blk_cell BK185.out 2).trans rfl; have hcz51_3 : w50.cell? ⟨gb185, 3, none⟩ = some (.int .i64 (rd t174 4)) := (blk_cell BK185.out 3).trans rfl; have hcz51_4 : w50.cell? ⟨gb185, 4, none⟩ = some (.int .i64 (rd t174 7)) := (blk_cell BK185.out 4).trans rfl; have hcz51_5 : w50.cell? ⟨gb185, 5, none⟩ = some (.int .i64 (rd t174 8)) := (blk_cell BK185.out 5).trans rfl; have hcz51_6 : w50.cell? ⟨gb185, 6, none⟩ = some (.int .i64 (rd t174 9)) := (blk_cell BK185.out 6).trans rfl; have hfz51_0 := blk_frozen BK185.out 0; have hfz51_1 := blk_frozen BK185.out 1; have hfz51_2 := blk_frozen BK185.out 2; have hfz51_3 := blk_frozen BK185.out 3; have hfz51_4 := blk_frozen BK185.out 4; have hfz51_5 := blk_frozen BK185.out 5; have hfz51_6 := blk_frozen BK185.out 6; have hcz52_0 : w50.cell? ⟨gb173, 0, none⟩ = some (.int .i64 0) := (blk_cell BK173.out 0).trans rfl; have hcz52_1 : w50.cell? ⟨gb173, 1, none⟩ = some (.int .i64 0) := (blk_cell BK173.out 1).trans rfl; have hcz52_2 : w50.cell? ⟨gb173, 2, none⟩ = some (.int .i64 0) := (blk_cell BK173.out 2).trans rfl; have hcz52_3 : w50.cell? ⟨gb173, 3, none⟩ = some (.int .i64 0) := (blk_cell BK173.out 3).trans rfl; have hcz52_4 : w50.cell? ⟨gb173, 4, none⟩ = some (.int .i64 0) := (blk_cell BK173.out 4).trans rfl; have hcz52_5 : w50.cell? ⟨gb173, 5, none⟩ = some (.int .i64 0) := (blk_cell BK173.out 5).trans rfl; have hcz52_6 : w50.cell? ⟨gb173, 6, none⟩ = some (.int .i64 0) := (blk_cell BK173.out 6).trans rfl; have hfz52_0 := blk_frozen BK173.out 0; have hfz52_1 := blk_frozen BK173.out 1; have hfz52_2 := blk_frozen BK173.out 2; have hfz52_3 := blk_frozen BK173.out 3; have hfz52_4 := blk_frozen BK173.out 4; have hfz52_5 := blk_frozen BK173.out 5; have hfz52_6 := blk_frozen BK173.out 6))
                                  refine bodyPost_ret (results_ct rfl _ _ gb173 34 #[.int .i64 (rd t174 1), .int .i64 (rd t174 2), .int .i64 (rd t174 3), .int .i64 (rd t174 4), .int .i64 (rd t174 7), .int .i64 (rd t174 8), .int .i64 (rd t174 9)] (0, 0) _ rfl (by (with_reducible repeat (first | refine blk_drewN ?_ _ | refine blk_drew ?_ | refine blk_alloc ?_ _)); refine blk_put (cs := #[.int .i64 (rd t174 1), .int .i64 (rd t174 2), .int .i64 (rd t174 3), .int .i64 (rd t174 4), .int .i64 (rd t174 7), .int .i64 (rd t174 8), .int .i64 0]) ?_ 6 _ rfl; (with_reducible repeat (first | refine blk_drewN ?_ _ | refine blk_drew ?_ | refine blk_alloc ?_ _)); refine blk_put (cs := #[.int .i64 (rd t174 1), .int .i64 (rd t174 2), .int .i64 (rd t174 3), .int .i64 (rd t174 4), .int .i64 (rd t174 7), .int .i64 0, .int .i64 0]) ?_ 5 _ rfl; (with_reducible repeat (first | refine blk_drewN ?_ _ | refine blk_drew ?_ | refine blk_alloc ?_ _)); refine blk_put (cs := #[.int .i64 (rd t174 1), .int .i64 (rd t174 2), .int .i64 (rd t174 3), .int .i64 (rd t174 4), .int .i64 0, .int .i64 0, .int .i64 0]) ?_ 4 _ rfl; (with_reducible repeat (first | refine blk_drewN ?_ _ | refine blk_drew ?_ | refine blk_alloc ?_ _)); refine blk_put (cs := #[.int .i64 (rd t174 1), .int .i64 (rd t174 2), .int .i64 (rd t174 3), .int .i64 0, .int .i64 0, .int .i64 0, .int .i64 0]) ?_ 3 _ rfl; (with_reducible repeat (first | refine blk_drewN ?_ _ | refine blk_drew ?_ | refine blk_alloc ?_ _)); refine blk_put (cs := #[.int .i64 (rd t174 1), .int .i64 (rd t174 2), .int .i64 0, .int .i64 0, .int .i64 0, .int .i64 0, .int .i64 0]) ?_ 2 _ rfl; (with_reducible repeat (first | refine blk_drewN ?_ _ | refine blk_drew ?_ | refine blk_alloc ?_ _)); refine blk_put (cs := #[.int .i64 (rd t174 1), .int .i64 0, .int .i64 0, .int .i64 0, .int .i64 0, .int .i64 0, .int .i64 0]) ?_ 1 _ rfl; (with_reducible repeat (first | refine blk_drewN ?_ _ | refine blk_drew ?_ | refine blk_alloc ?_ _)); refine blk_put (cs := #[.int .i64 0, .int .i64 0, .int .i64 0, .int .i64 0, .int .i64 0, .int .i64 0, .int .i64 0]) ?_ 0 _ rfl; (with_reducible repeat (first | refine blk_drewN ?_ _ | refine blk_drew ?_ | refine blk_alloc ?_ _)); exact BK173.out) Try.underlying34 rfl (by kernel_rfl)) rfl ?_
                                  exact ⟨by first | rfl | (simp [errW_none, errW_some] <;> rfl) | (simp [*, errW_none, errW_some] <;> rfl), by repeat (first | (with_reducible first | exact HB.out | apply below_alloc | apply pw_below_drewN | apply below_drew1 | refine below_set ?_ GE173.out | refine below_set ?_ GE185.out) | exact HB.out)⟩
                              · replace c41 := Bool.eq_false_iff.mpr c41
                                subst c41
                                have H1 : (some (0, 0, 0, 0, 0, 0, 0, 6)) = some (r1, r2, r3, r4, r5, r6, r7, r8) := by rw [if_neg (show ¬ (false = true) by decide)] at H; exact H
                                clear H
                                have H := H1
                                clear H1
                                simp only [Option.some.injEq, Prod.mk.injEq] at H
                                obtain ⟨rfl, rfl, rfl, rfl, rfl, rfl, rfl, rfl⟩ := H
                                have hnb53 := NB185_173.out
                                have hnc53 := NB173_185.out
                                have hcz54_0 : wc.cell? ⟨gb185, 0, none⟩ = some (.int .i64 (rd t174 1)) := (blk_cell BK185.out 0).trans rfl
                                have hcz54_1 : wc.cell? ⟨gb185, 1, none⟩ = some (.int .i64 (rd t174 2)) := (blk_cell BK185.out 1).trans rfl
                                have hcz54_2 : wc.cell? ⟨gb185, 2, none⟩ = some (.int .i64 (rd t174 3)) := (blk_cell BK185.out 2).trans rfl
                                have hcz54_3 : wc.cell? ⟨gb185, 3, none⟩ = some (.int .i64 (rd t174 4)) := (blk_cell BK185.out 3).trans rfl
                                have hcz54_4 : wc.cell? ⟨gb185, 4, none⟩ = some (.int .i64 (rd t174 7)) := (blk_cell BK185.out 4).trans rfl
                                have hcz54_5 : wc.cell? ⟨gb185, 5, none⟩ = some (.int .i64 (rd t174 8)) := (blk_cell BK185.out 5).trans rfl
                                have hcz54_6 : wc.cell? ⟨gb185, 6, none⟩ = some (.int .i64 (rd t174 9)) := (blk_cell BK185.out 6).trans rfl
                                have hfz54_0 := blk_frozen BK185.out 0
                                have hfz54_1 := blk_frozen BK185.out 1
                                have hfz54_2 := blk_frozen BK185.out 2
                                have hfz54_3 := blk_frozen BK185.out 3
                                have hfz54_4 := blk_frozen BK185.out 4
                                have hfz54_5 := blk_frozen BK185.out 5
                                have hfz54_6 := blk_frozen BK185.out 6
                                go_wp2_with (first | ((with_reducible refine gate_callee (f := 57) rfl ?_); refine goesL_ (some 64) rfl rfl Try.func57 (by kernel_rfl) rfl #[.agg #[.int .i64 (rd t174 1), .int .i64 (rd t174 2), .int .i64 (rd t174 3), .int .i64 (rd t174 4), .int .i64 (rd t174 7), .int .i64 (rd t174 8), .int .i64 (rd t174 9)]] rfl (by (try simp only [List.map_toArray, List.map_cons, List.map_nil]); first | done | rfl | (simp only [List.length_drop, List.length_take]; rfl)) ?_; (with_reducible refine (head_may.calls (rd t174 1) (rd t174 2) (rd t174 3) (rd t174 4) (rd t174 7) (rd t174 8) (rd t174 9) false _ A40.out).mono ?_); rintro e w55 ⟨rfl, hb⟩; refine ⟨_, rfl, ?_⟩; have n0_ := Aside0.mk (blk_below (g := gb173) (o := .cells #[.int .i64 0, .int .i64 0, .int .i64 0, .int .i64 0, .int .i64 0, .int .i64 0, .int .i64 0] 34 (0, 0)) (by (with_reducible repeat (first | refine blk_drewN ?_ _ | refine blk_drew ?_ | refine blk_alloc ?_ _)); exact BK173.out) hb); have n1_ := Aside0.mk (blk_below (g := gb185) (o := .cells #[.int .i64 (rd t174 1), .int .i64 (rd t174 2), .int .i64 (rd t174 3), .int .i64 (rd t174 4), .int .i64 (rd t174 7), .int .i64 (rd t174 8), .int .i64 (rd t174 9)] 34 (0, 0)) (by (with_reducible repeat (first | refine blk_drewN ?_ _ | refine blk_drew ?_ | refine blk_alloc ?_ _)); exact BK185.out) hb); have n2_ := Aside0.mk (below_step (by repeat (first | (with_reducible first | exact HB.out | apply below_alloc | apply pw_below_drewN | apply below_drew1 | refine below_set ?_ GE173.out | refine below_set ?_ GE185.out) | exact HB.out)) hb); clear BK173; clear BK185; clear HB; have BK173 := n0_; have BK185 := n1_; have HB := n2_; clear n0_ n1_ n2_; (try clear hb); (try clear hb2); (try clear hk); (try clear hi); have hcz56_0 : w55.cell? ⟨gb173, 0, none⟩ = some (.int .i64 0) := (blk_cell BK173.out 0).trans rfl; have hcz56_1 : w55.cell? ⟨gb173, 1, none⟩ = some (.int .i64 0) := (blk_cell BK173.out 1).trans rfl; have hcz56_2 : w55.cell? ⟨gb173, 2, none⟩ = some (.int .i64 0) := (blk_cell BK173.out 2).trans rfl; have hcz56_3 : w55.cell? ⟨gb173, 3, none⟩ = some (.int .i64 0) := (blk_cell BK173.out 3).trans rfl; have hcz56_4 : w55.cell? ⟨gb173, 4, none⟩ = some (.int .i64 0) := (blk_cell BK173.out 4).trans rfl; have hcz56_5 : w55.cell? ⟨gb173, 5, none⟩ = some (.int .i64 0) := (blk_cell BK173.out 5).trans rfl; have hcz56_6 : w55.cell? ⟨gb173, 6, none⟩ = some (.int .i64 0) := (blk_cell BK173.out 6).trans rfl; have hfz56_0 := blk_frozen BK173.out 0; have hfz56_1 := blk_frozen BK173.out 1; have hfz56_2 := blk_frozen BK173.out 2; have hfz56_3 := blk_frozen BK173.out 3; have hfz56_4 := blk_frozen BK173.out 4; have hfz56_5 := blk_frozen BK173.out 5; have hfz56_6 := blk_frozen BK173.out 6))
                                refine bodyPost_ret (results_ct rfl _ _ gb173 34 #[.int .i64 0, .int .i64 0, .int .i64 0, .int .i64 0, .int .i64 0, .int .i64 0, .int .i64 0] (0, 0) _ rfl (by (with_reducible repeat (first | refine blk_drewN ?_ _ | refine blk_drew ?_ | refine blk_alloc ?_ _)); refine blk_put (cs := #[.int .i64 0, .int .i64 0, .int .i64 0, .int .i64 0, .int .i64 0, .int .i64 0, .int .i64 0]) ?_ 6 _ rfl; (with_reducible repeat (first | refine blk_drewN ?_ _ | refine blk_drew ?_ | refine blk_alloc ?_ _)); refine blk_put (cs := #[.int .i64 0, .int .i64 0, .int .i64 0, .int .i64 0, .int .i64 0, .int .i64 0, .int .i64 0]) ?_ 5 _ rfl; (with_reducible repeat (first | refine blk_drewN ?_ _ | refine blk_drew ?_ | refine blk_alloc ?_ _)); refine blk_put (cs := #[.int .i64 0, .int .i64 0, .int .i64 0, .int .i64 0, .int .i64 0, .int .i64 0, .int .i64 0]) ?_ 4 _ rfl; (with_reducible repeat (first | refine blk_drewN ?_ _ | refine blk_drew ?_ | refine blk_alloc ?_ _)); refine blk_put (cs := #[.int .i64 0, .int .i64 0, .int .i64 0, .int .i64 0, .int .i64 0, .int .i64 0, .int .i64 0]) ?_ 3 _ rfl; (with_reducible repeat (first | refine blk_drewN ?_ _ | refine blk_drew ?_ | refine blk_alloc ?_ _)); refine blk_put (cs := #[.int .i64 0, .int .i64 0, .int .i64 0, .int .i64 0, .int .i64 0, .int .i64 0, .int .i64 0]) ?_ 2 _ rfl; (with_reducible repeat (first | refine blk_drewN ?_ _ | refine blk_drew ?_ | refine blk_alloc ?_ _)); refine blk_put (cs := #[.int .i64 0, .int .i64 0, .int .i64 0, .int .i64 0, .int .i64 0, .int .i64 0, .int .i64 0]) ?_ 1 _ rfl; (with_reducible repeat (first | refine blk_drewN ?_ _ | refine blk_drew ?_ | refine blk_alloc ?_ _)); refine blk_put (cs := #[.int .i64 0, .int .i64 0, .int .i64 0, .int .i64 0, .int .i64 0, .int .i64 0, .int .i64 0]) ?_ 0 _ rfl; (with_reducible repeat (first | refine blk_drewN ?_ _ | refine blk_drew ?_ | refine blk_alloc ?_ _)); exact BK173.out) Try.underlying34 rfl (by kernel_rfl)) rfl ?_
                                exact ⟨by first | rfl | (simp [errW_none, errW_some] <;> rfl) | (simp [*, errW_none, errW_some] <;> rfl), by repeat (first | (with_reducible first | exact HB.out | apply below_alloc | apply pw_below_drewN | apply below_drew1 | refine below_set ?_ GE173.out | refine below_set ?_ GE185.out) | exact HB.out)⟩
                    · rw [if_neg c14] at H
                      exact absurd H (by simp)
                  · rw [if_neg c13] at H
                    exact absurd H (by simp)
                · rw [if_neg c12] at H
                  exact absurd H (by simp)
              · rw [if_neg c11] at H
                exact absurd H (by simp)
            · rw [if_neg c10] at H
              exact absurd H (by simp)
          · rw [if_neg c9] at H
            exact absurd H (by simp)
        · rw [if_neg c8] at H
          exact absurd H (by simp)
      · rw [if_neg c6] at H
        exact absurd H (by simp)
    · rw [if_neg c5] at H
      exact absurd H (by simp)

end Go.Proofs.Ythpgppamdejjhaa.X
