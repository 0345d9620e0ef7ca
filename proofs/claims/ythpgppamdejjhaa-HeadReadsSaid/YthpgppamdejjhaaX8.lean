/- Written by a program (xprint.py, which runs the print with contracts given by hand) for this claim: Go functions as Lean functions, each with its contract. Lean checks it. -/
import Derived.Test.YthpgppamdejjhaaX0
import Derived.Test.YthpgppamdejjhaaX6
import Derived.Test.YthpgppamdejjhaaX7
namespace Go.Proofs.Ythpgppamdejjhaa.X
open Go.RowKit Go.Proofs.YthpgppamdejjhaaW.PrintWords Go.Proofs.YthpgppamdejjhaaW.PrintLast Go.Proofs.YthpgppamdejjhaaW.PrintMore
attribute [local go_sem] max2_int min2_int max_two min_two max_three min_three max_four min_four   -- for this text's walks alone
set_option linter.unusedVariables false
set_option linter.unusedSimpArgs false

/-! ### postilionref11_Read: function 29 -/
def postilionref11_Read.j0 : Nat → ByteArray → Bool → Int → Int → Int → Int → Int → Int → Int → Option (Int × Int × Int × Int × Int × Int × Int × Int)
  | 0, _, _, _, _, _, _, _, _, _ => none
  | k + 1, x0, x39, x256000, x256001, x256002, x256003, x256004, x256005, x256006 => if x39 = true then (some (0, 0, 0, 0, 0, 0, 0, 6)) else (if x256000 > 16384 then (some (0, 0, 0, 0, 0, 0, 0, 7)) else ((postilionref11_may.f x256000 x256001 x256002 x256003 x256004 x256005 x256006).bind fun t259 => (if t259 = true then (if (x0.size : Int) < x256000 then (some (0, 0, 0, 0, 0, 0, 0, 14)) else (some (x256000, x256001, x256002, x256003, x256004, x256005, x256006, 0))) else (some (0, 0, 0, 0, 0, 0, 0, 6)))))
def postilionref11_Read.f (k : Nat) (a0 : ByteArray) : Option (Int × Int × Int × Int × Int × Int × Int × Int) := if (a0.size : Int) < 40 then (some (0, 0, 0, 0, 0, 0, 0, 14)) else (if 0 ≤ 40 then (if 40 ≤ (a0.size : Int) then ((postilionref01_FromBigs.f k (a0.extract 0 40)).bind fun bt244 => (if 1 < (bt244.1.length : Int) then (if 2 < (bt244.1.length : Int) then (if 3 < (bt244.1.length : Int) then (if 4 < (bt244.1.length : Int) then (if 7 < (bt244.1.length : Int) then (if 8 < (bt244.1.length : Int) then (if 9 < (bt244.1.length : Int) then (if 0 < (bt244.1.length : Int) then (if (rd bt244.1 0) = 3490578157 then (if 5 < (bt244.1.length : Int) then (if (rd bt244.1 5) < 17 then (postilionref11_Read.j0 k a0 true (rd bt244.1 1) (rd bt244.1 2) (rd bt244.1 3) (rd bt244.1 4) (rd bt244.1 7) (rd bt244.1 8) (rd bt244.1 9)) else (if 6 < (bt244.1.length : Int) then (postilionref11_Read.j0 k a0 (decide ((rd bt244.1 6) > 17)) (rd bt244.1 1) (rd bt244.1 2) (rd bt244.1 3) (rd bt244.1 4) (rd bt244.1 7) (rd bt244.1 8) (rd bt244.1 9)) else (none))) else (none)) else (postilionref11_Read.j0 k a0 true (rd bt244.1 1) (rd bt244.1 2) (rd bt244.1 3) (rd bt244.1 4) (rd bt244.1 7) (rd bt244.1 8) (rd bt244.1 9))) else (none)) else (none)) else (none)) else (none)) else (none)) else (none)) else (none)) else (none))) else (none)) else (none))
theorem postilionref11_Read.mono_l : ∀ k, (∀ y0 y1 y2 y3 y4 y5 y6 y7 y8, LeO (postilionref11_Read.j0 k y0 y1 y2 y3 y4 y5 y6 y7 y8) (postilionref11_Read.j0 (k + 1) y0 y1 y2 y3 y4 y5 y6 y7 y8))
  | 0 => fun _ _ _ _ _ _ _ _ _ r h => by simp [postilionref11_Read.j0] at h
  | k + 1 => by
    have ih0 := postilionref11_Read.mono_l k
    · intro y0 y1 y2 y3 y4 y5 y6 y7 y8
      unfold postilionref11_Read.j0
      repeat' first
      | (with_reducible exact ih0 _ _ _ _ _ _ _ _ _)
      | (with_reducible exact postilionref01_FromBigs.mono _ _)
      | (with_reducible exact LeO.refl _)
      | (with_reducible exact LeO.none _)
      | (with_reducible refine LeO.ite ?_ ?_)
      | (with_reducible refine LeO.bind ?_ (fun _ => ?_))
      | exact ih0 _ _ _ _ _ _ _ _ _
      | exact postilionref01_FromBigs.mono _ _
      | exact LeO.none _
      | refine LeO.ite ?_ ?_
      | refine LeO.bind ?_ (fun _ => ?_)
theorem postilionref11_Read.mono : ∀ a0 k, LeO (postilionref11_Read.f k a0) (postilionref11_Read.f (k + 1) a0) := by
  intro a0 k
  have ih0 := postilionref11_Read.mono_l k
  unfold postilionref11_Read.f
  repeat' first
      | (with_reducible exact ih0 _ _ _ _ _ _ _ _ _)
      | (with_reducible exact postilionref01_FromBigs.mono _ _)
      | (with_reducible exact LeO.refl _)
      | (with_reducible exact LeO.none _)
      | (with_reducible refine LeO.ite ?_ ?_)
      | (with_reducible refine LeO.bind ?_ (fun _ => ?_))
      | exact ih0 _ _ _ _ _ _ _ _ _
      | exact postilionref01_FromBigs.mono _ _
      | exact LeO.none _
      | refine LeO.ite ?_ ?_
      | refine LeO.bind ?_ (fun _ => ?_)
def postilionref11_Read.T4 : Bool × List (List Nat × List Nat) := (true, [([], []), ([0], [0]), ([1], [1]), ([], []), ([3], [3]), ([4], [4]), ([], []), ([6], [6]), ([7], [7]), ([], []), ([9], [9]), ([10], [10]), ([], []), ([12], [12]), ([13], [13]), ([], []), ([15], [15]), ([16], [16]), ([], []), ([18], [18]), ([19], [19]), ([2, 5, 8, 11, 14, 17, 20], [2, 5, 8, 11, 14, 17, 20]), ([], []), ([22, 21, 0, 1, 2, 3, 4, 5, 6, 7, 8, 9, 10, 11, 12, 13, 14, 15, 16, 17, 18, 19, 20, 21, 22], [21, 22])])
def postilionref11_Read.B4 : List Nat := [0, 1, 3, 0, 8, 24, 0, 64, 192, 0, 512, 1536, 0, 4096, 12288, 0, 32768, 98304, 0, 262144, 786432, 2097151, 0, 8388607]
theorem postilionref11_Read.tab4 : rtab .any (opsOf Try.f29 4) = postilionref11_Read.T4 := by kernel_rfl
theorem postilionref11_Read.bits4 : waitsOk postilionref11_Read.T4.2 postilionref11_Read.B4 = true := by kernel_rfl
set_option maxHeartbeats 8000000 in
set_option maxRecDepth 100000 in
theorem postilionref11_Read.calls (k : Nat) (a0 : ByteArray) (r1 : Int) (r2 : Int) (r3 : Int) (r4 : Int) (r5 : Int) (r6 : Int) (r7 : Int) (r8 : Int) (w : World) (h : postilionref11_Read.f k a0 = some (r1, r2, r3, r4, r5, r6, r7, r8)) :
    Calls Try.prog 29 #[.string a0] w fun e w' => e = .returned (.tuple #[.agg #[.int .i64 r1, .int .i64 r2, .int .i64 r3, .int .i64 r4, .int .i64 r5, .int .i64 r6, .int .i64 r7], .int .i64 r8]) ∧ Below w.heap.size w w' := by
  have hu34 := Try.underlying34
  have HB := Aside0.mk (Below.refl w.heap.size w)
  have H : (if (a0.size : Int) < 40 then (some (0, 0, 0, 0, 0, 0, 0, 14)) else (if 0 ≤ 40 then (if 40 ≤ (a0.size : Int) then ((postilionref01_FromBigs.f k (a0.extract 0 40)).bind fun bt244 => (if 1 < (bt244.1.length : Int) then (if 2 < (bt244.1.length : Int) then (if 3 < (bt244.1.length : Int) then (if 4 < (bt244.1.length : Int) then (if 7 < (bt244.1.length : Int) then (if 8 < (bt244.1.length : Int) then (if 9 < (bt244.1.length : Int) then (if 0 < (bt244.1.length : Int) then (if (rd bt244.1 0) = 3490578157 then (if 5 < (bt244.1.length : Int) then (if (rd bt244.1 5) < 17 then (postilionref11_Read.j0 k a0 true (rd bt244.1 1) (rd bt244.1 2) (rd bt244.1 3) (rd bt244.1 4) (rd bt244.1 7) (rd bt244.1 8) (rd bt244.1 9)) else (if 6 < (bt244.1.length : Int) then (postilionref11_Read.j0 k a0 (decide ((rd bt244.1 6) > 17)) (rd bt244.1 1) (rd bt244.1 2) (rd bt244.1 3) (rd bt244.1 4) (rd bt244.1 7) (rd bt244.1 8) (rd bt244.1 9)) else (none))) else (none)) else (postilionref11_Read.j0 k a0 true (rd bt244.1 1) (rd bt244.1 2) (rd bt244.1 3) (rd bt244.1 4) (rd bt244.1 7) (rd bt244.1 8) (rd bt244.1 9))) else (none)) else (none)) else (none)) else (none)) else (none)) else (none)) else (none)) else (none))) else (none)) else (none))) = some (r1, r2, r3, r4, r5, r6, r7, r8) := h
  clear h
  by_cases c2 : (a0.size : Int) < 40
  · rw [if_pos c2] at H
    have c2b0 : decide ((a0.size : Int) < 40) = true := decide_eq_true c2
    have c2b1 : decide (a0.size < 40) = true := decide_eq_true (by omega)
    clear c2
    simp only [Option.some.injEq, Prod.mk.injEq] at H
    obtain ⟨rfl, rfl, rfl, rfl, rfl, rfl, rfl, rfl⟩ := H
    go_enter Try.func29, Try.ntmps29
    go_wp2_with (first | ((with_reducible refine gate_dst (N := 2) rfl ?_); refine box_event ?hg (N := 2) ?hd (cs := #[.int .i64 0, .int .i64 0, .int .i64 0, .int .i64 0, .int .i64 0, .int .i64 0, .int .i64 0]) (t := 34) ?hr ?_; (case hd => rfl); (case hg => rfl); (case hr => first | (go_simp; done) | (go_simp; rfl)); intro gb243 hg w3 hbox hb; have n0_ := Aside0.mk (below_step (by repeat (first | (with_reducible first | exact HB.out | apply below_alloc | apply pw_below_drewN | apply below_drew1) | exact HB.out)) hb); have n1_ := Aside0.mk (hbox); have n2_ := Aside0.mk ((by rw [hg]; exact (below_size (by repeat (first | (with_reducible first | exact HB.out | apply below_alloc | apply pw_below_drewN | apply below_drew1) | exact HB.out))) : w.heap.size ≤ gb243)); have n3_ := Aside0.mk ((by rw [hg]; exact (below_size (by repeat (first | (with_reducible first | exact HB.out | apply below_alloc | apply pw_below_drewN | apply below_drew1) | exact HB.out))) : w.heap.size ≤ gb243)); clear HB; have HB := n0_; have BK243 := n1_; have GW243 := n2_; have GE243 := n3_; clear n0_ n1_ n2_ n3_; clear hb hbox hg; have hcz4_0 : w3.cell? ⟨gb243, 0, none⟩ = some (.int .i64 0) := (blk_cell BK243.out 0).trans rfl; have hcz4_1 : w3.cell? ⟨gb243, 1, none⟩ = some (.int .i64 0) := (blk_cell BK243.out 1).trans rfl; have hcz4_2 : w3.cell? ⟨gb243, 2, none⟩ = some (.int .i64 0) := (blk_cell BK243.out 2).trans rfl; have hcz4_3 : w3.cell? ⟨gb243, 3, none⟩ = some (.int .i64 0) := (blk_cell BK243.out 3).trans rfl; have hcz4_4 : w3.cell? ⟨gb243, 4, none⟩ = some (.int .i64 0) := (blk_cell BK243.out 4).trans rfl; have hcz4_5 : w3.cell? ⟨gb243, 5, none⟩ = some (.int .i64 0) := (blk_cell BK243.out 5).trans rfl; have hcz4_6 : w3.cell? ⟨gb243, 6, none⟩ = some (.int .i64 0) := (blk_cell BK243.out 6).trans rfl; have hfz4_0 := blk_frozen BK243.out 0; have hfz4_1 := blk_frozen BK243.out 1; have hfz4_2 := blk_frozen BK243.out 2; have hfz4_3 := blk_frozen BK243.out 3; have hfz4_4 := blk_frozen BK243.out 4; have hfz4_5 := blk_frozen BK243.out 5; have hfz4_6 := blk_frozen BK243.out 6))
    refine bodyPost_ret (results_ct rfl _ _ gb243 34 #[.int .i64 0, .int .i64 0, .int .i64 0, .int .i64 0, .int .i64 0, .int .i64 0, .int .i64 0] (0, 0) _ rfl (by (with_reducible repeat (first | refine blk_drewN ?_ _ | refine blk_drew ?_ | refine blk_alloc ?_ _)); refine blk_put (cs := #[.int .i64 0, .int .i64 0, .int .i64 0, .int .i64 0, .int .i64 0, .int .i64 0, .int .i64 0]) ?_ 6 _ rfl; (with_reducible repeat (first | refine blk_drewN ?_ _ | refine blk_drew ?_ | refine blk_alloc ?_ _)); refine blk_put (cs := #[.int .i64 0, .int .i64 0, .int .i64 0, .int .i64 0, .int .i64 0, .int .i64 0, .int .i64 0]) ?_ 5 _ rfl; (with_reducible repeat (first | refine blk_drewN ?_ _ | refine blk_drew ?_ | refine blk_alloc ?_ _)); refine blk_put (cs := #[.int .i64 0, .int .i64 0, .int .i64 0, .int .i64 0, .int .i64 0, .int .i64 0, .int .i64 0]) ?_ 4 _ rfl; (with_reducible repeat (first | refine blk_drewN ?_ _ | refine blk_drew ?_ | refine blk_alloc ?_ _)); refine blk_put (cs := #[.int .i64 0, .int .i64 0, .int .i64 0, .int .i64 0, .int .i64 0, .int .i64 0, .int .i64 0]) ?_ 3 _ rfl; (with_reducible repeat (first | refine blk_drewN ?_ _ | refine blk_drew ?_ | refine blk_alloc ?_ _)); refine blk_put (cs := #[.int .i64 0, .int .i64 0, .int .i64 0, .int .i64 0, .int .i64 0, .int .i64 0, .int .i64 0]) ?_ 2 _ rfl; (with_reducible repeat (first | refine blk_drewN ?_ _ | refine blk_drew ?_ | refine blk_alloc ?_ _)); refine blk_put (cs := #[.int .i64 0, .int .i64 0, .int .i64 0, .int .i64 0, .int .i64 0, .int .i64 0, .int .i64 0]) ?_ 1 _ rfl; (with_reducible repeat (first | refine blk_drewN ?_ _ | refine blk_drew ?_ | refine blk_alloc ?_ _)); refine blk_put (cs := #[.int .i64 0, .int .i64 0, .int .i64 0, .int .i64 0, .int .i64 0, .int .i64 0, .int .i64 0]) ?_ 0 _ rfl; (with_reducible repeat (first | refine blk_drewN ?_ _ | refine blk_drew ?_ | refine blk_alloc ?_ _)); exact BK243.out) Try.underlying34 rfl (by kernel_rfl)) rfl ?_
    exact ⟨by first | rfl | (simp [errW_none, errW_some] <;> rfl) | (simp [*, errW_none, errW_some] <;> rfl), by repeat (first | (with_reducible first | exact HB.out | apply below_alloc | apply pw_below_drewN | apply below_drew1 | refine below_set ?_ GE243.out) | exact HB.out)⟩
  · rw [if_neg c2] at H
    have c2b0 : decide ((a0.size : Int) < 40) = false := decide_eq_false c2
    have c2b1 : decide (a0.size < 40) = false := decide_eq_false (by omega)
    clear c2
    by_cases c5 : 0 ≤ 40
    · rw [if_pos c5] at H
      have c5b0 := eq_true c5
      have c5b1 : decide (0 ≤ 40) = true := decide_eq_true c5
      clear c5
      by_cases c6 : 40 ≤ (a0.size : Int)
      · rw [if_pos c6] at H
        have c6b0 := eq_true c6
        have c6b1 : decide (40 ≤ (a0.size : Int)) = true := decide_eq_true c6
        clear c6
        replace H := Option.bind_eq_some_iff.mp H
        obtain ⟨⟨t244, t245⟩, A70, H⟩ := H
        replace H : (if 1 < (t244.length : Int) then (if 2 < (t244.length : Int) then (if 3 < (t244.length : Int) then (if 4 < (t244.length : Int) then (if 7 < (t244.length : Int) then (if 8 < (t244.length : Int) then (if 9 < (t244.length : Int) then (if 0 < (t244.length : Int) then (if (rd t244 0) = 3490578157 then (if 5 < (t244.length : Int) then (if (rd t244 5) < 17 then (postilionref11_Read.j0 k a0 true (rd t244 1) (rd t244 2) (rd t244 3) (rd t244 4) (rd t244 7) (rd t244 8) (rd t244 9)) else (if 6 < (t244.length : Int) then (postilionref11_Read.j0 k a0 (decide ((rd t244 6) > 17)) (rd t244 1) (rd t244 2) (rd t244 3) (rd t244 4) (rd t244 7) (rd t244 8) (rd t244 9)) else (none))) else (none)) else (postilionref11_Read.j0 k a0 true (rd t244 1) (rd t244 2) (rd t244 3) (rd t244 4) (rd t244 7) (rd t244 8) (rd t244 9))) else (none)) else (none)) else (none)) else (none)) else (none)) else (none)) else (none)) else (none)) = some (r1, r2, r3, r4, r5, r6, r7, r8) := H
        have A7 := Aside0.mk A70
        clear A70
        by_cases c8 : 1 < (t244.length : Int)
        · rw [if_pos c8] at H
          have c8b0 : decide (1 < (t244.length : Int)) = true := decide_eq_true c8
          have c8b1 : decide (1 < t244.length) = true := decide_eq_true (by omega)
          clear c8
          by_cases c9 : 2 < (t244.length : Int)
          · rw [if_pos c9] at H
            have c9b0 : decide (2 < (t244.length : Int)) = true := decide_eq_true c9
            have c9b1 : decide (2 < t244.length) = true := decide_eq_true (by omega)
            clear c9
            by_cases c10 : 3 < (t244.length : Int)
            · rw [if_pos c10] at H
              have c10b0 : decide (3 < (t244.length : Int)) = true := decide_eq_true c10
              have c10b1 : decide (3 < t244.length) = true := decide_eq_true (by omega)
              clear c10
              by_cases c11 : 4 < (t244.length : Int)
              · rw [if_pos c11] at H
                have c11b0 : decide (4 < (t244.length : Int)) = true := decide_eq_true c11
                have c11b1 : decide (4 < t244.length) = true := decide_eq_true (by omega)
                clear c11
                by_cases c12 : 7 < (t244.length : Int)
                · rw [if_pos c12] at H
                  have c12b0 : decide (7 < (t244.length : Int)) = true := decide_eq_true c12
                  have c12b1 : decide (7 < t244.length) = true := decide_eq_true (by omega)
                  clear c12
                  by_cases c13 : 8 < (t244.length : Int)
                  · rw [if_pos c13] at H
                    have c13b0 : decide (8 < (t244.length : Int)) = true := decide_eq_true c13
                    have c13b1 : decide (8 < t244.length) = true := decide_eq_true (by omega)
                    clear c13
                    by_cases c14 : 9 < (t244.length : Int)
                    · rw [if_pos c14] at H
                      have c14b0 : decide (9 < (t244.length : Int)) = true := decide_eq_true c14
                      have c14b1 : decide (9 < t244.length) = true := decide_eq_true (by omega)
                      clear c14
                      have HC15 := Aside0.mk H
                      clear H
                      go_enter Try.func29, Try.ntmps29
                      try go_wp2_with (first | ((with_reducible refine gate_dst (N := 2) rfl ?_); refine box_event ?hg (N := 2) ?hd (cs := #[.int .i64 0, .int .i64 0, .int .i64 0, .int .i64 0, .int .i64 0, .int .i64 0, .int .i64 0]) (t := 34) ?hr ?_; (case hd => rfl); (case hg => rfl); (case hr => first | (go_simp; done) | (go_simp; rfl)); intro gb243 hg w16 hbox hb; have n0_ := Aside0.mk (below_step (by repeat (first | (with_reducible first | exact HB.out | apply below_alloc | apply pw_below_drewN | apply below_drew1) | exact HB.out)) hb); have n1_ := Aside0.mk (hbox); have n2_ := Aside0.mk ((by rw [hg]; exact (below_size (by repeat (first | (with_reducible first | exact HB.out | apply below_alloc | apply pw_below_drewN | apply below_drew1) | exact HB.out))) : w.heap.size ≤ gb243)); have n3_ := Aside0.mk ((by rw [hg]; exact (below_size (by repeat (first | (with_reducible first | exact HB.out | apply below_alloc | apply pw_below_drewN | apply below_drew1) | exact HB.out))) : w.heap.size ≤ gb243)); clear HB; have HB := n0_; have BK243 := n1_; have GW243 := n2_; have GE243 := n3_; clear n0_ n1_ n2_ n3_; clear hb hbox hg) | ((with_reducible refine gate_callee (f := 63) rfl ?_); refine goesL_ (some 14) rfl rfl Try.func63 (by kernel_rfl) rfl #[.string (a0.extract 0 40)] rfl (by (try simp only [List.map_toArray, List.map_cons, List.map_nil]); first | done | rfl | (simp only [List.length_drop, List.length_take]; rfl)) ?_; (with_reducible refine (postilionref01_FromBigs.calls k (a0.extract 0 40) t244 t245 _ A7.out).mono ?_); rintro e w17 ⟨v246, rfl, ho0, hb⟩; refine ⟨_, rfl, ?_⟩; have n0_ := Aside0.mk (Kd.R_lower ho0 (below_size (by repeat (first | (with_reducible first | exact HB.out | apply below_alloc | apply pw_below_drewN | apply below_drew1 | refine below_set ?_ GE243.out) | exact HB.out)))); have n1_ := Aside0.mk (blk_below (g := gb243) (o := .cells #[.int .i64 0, .int .i64 0, .int .i64 0, .int .i64 0, .int .i64 0, .int .i64 0, .int .i64 0] 34 (0, 0)) (by (with_reducible repeat (first | refine blk_drewN ?_ _ | refine blk_drew ?_ | refine blk_alloc ?_ _)); exact BK243.out) hb); have n2_ := Aside0.mk (below_step (by repeat (first | (with_reducible first | exact HB.out | apply below_alloc | apply pw_below_drewN | apply below_drew1 | refine below_set ?_ GE243.out) | exact HB.out)) hb); clear BK243; clear HB; have HO247 := n0_; have BK243 := n1_; have HB := n2_; clear n0_ n1_ n2_; (try clear hb); (try clear hb2); (try clear hk); (try clear hi); (try clear ho0)))
                      have n0_ := Aside0.mk (Kd.R_drew HO247.out)
                      have n1_ := Aside0.mk (blk_drew BK243.out)
                      have n2_ := Aside0.mk (below_drew1 HB.out)
                      clear HO247
                      clear BK243
                      clear HB
                      have HO247 := n0_
                      have BK243 := n1_
                      have HB := n2_
                      clear n0_ n1_ n2_
                      obtain ⟨Ao19, co19, eo19⟩ := Kd.R_slice HO247.out
                      (first | subst eo19 | (injection eo19 with f1_ f2_ f3_; have f4_ := f1_.symm; have f5_ := f3_.symm; clear f1_ f2_ f3_; subst f4_; subst f5_))
                      have p248 : 0 ≤ (1 : Int) := (by omega)
                      have q248 : 1 < (t244.length : Int) := of_decide_eq_true (by first | (with_reducible assumption) | assumption)
                      obtain ⟨ad248, e248, hx248_0⟩ := Kd.at_int (Kd.R_reads' HO247.out).2.2 1 p248 q248
                      cases e248
                      (try simp only [show (1 : Int).toNat = 1 from rfl, Nat.reduceMul, Nat.reduceEqDiff, Go.Addr.add, ↓reduceIte] at hx248_0)
                      have qi248 : (1 < t244.length) = True := eq_true (by omega)
                      (try rw [show ((1 : Int)).toNat = 1 from rfl] at hx248_0)
                      replace p248 := eq_true p248
                      replace q248 := eq_true q248
                      have p249 : 0 ≤ (2 : Int) := (by omega)
                      have q249 : 2 < (t244.length : Int) := of_decide_eq_true (by first | (with_reducible assumption) | assumption)
                      obtain ⟨ad249, e249, hx249_0⟩ := Kd.at_int (Kd.R_reads' HO247.out).2.2 2 p249 q249
                      obtain rfl : ad248 = ad249 := (by injection e249)
                      (try simp only [show (2 : Int).toNat = 2 from rfl, Nat.reduceMul, Nat.reduceEqDiff, Go.Addr.add, ↓reduceIte] at hx249_0)
                      have qi249 : (2 < t244.length) = True := eq_true (by omega)
                      (try rw [show ((2 : Int)).toNat = 2 from rfl] at hx249_0)
                      replace p249 := eq_true p249
                      replace q249 := eq_true q249
                      have p250 : 0 ≤ (3 : Int) := (by omega)
                      have q250 : 3 < (t244.length : Int) := of_decide_eq_true (by first | (with_reducible assumption) | assumption)
                      obtain ⟨ad250, e250, hx250_0⟩ := Kd.at_int (Kd.R_reads' HO247.out).2.2 3 p250 q250
                      obtain rfl : ad248 = ad250 := (by injection e250)
                      (try simp only [show (3 : Int).toNat = 3 from rfl, Nat.reduceMul, Nat.reduceEqDiff, Go.Addr.add, ↓reduceIte] at hx250_0)
                      have qi250 : (3 < t244.length) = True := eq_true (by omega)
                      (try rw [show ((3 : Int)).toNat = 3 from rfl] at hx250_0)
                      replace p250 := eq_true p250
                      replace q250 := eq_true q250
                      have p251 : 0 ≤ (4 : Int) := (by omega)
                      have q251 : 4 < (t244.length : Int) := of_decide_eq_true (by first | (with_reducible assumption) | assumption)
                      obtain ⟨ad251, e251, hx251_0⟩ := Kd.at_int (Kd.R_reads' HO247.out).2.2 4 p251 q251
                      obtain rfl : ad248 = ad251 := (by injection e251)
                      (try simp only [show (4 : Int).toNat = 4 from rfl, Nat.reduceMul, Nat.reduceEqDiff, Go.Addr.add, ↓reduceIte] at hx251_0)
                      have qi251 : (4 < t244.length) = True := eq_true (by omega)
                      (try rw [show ((4 : Int)).toNat = 4 from rfl] at hx251_0)
                      replace p251 := eq_true p251
                      replace q251 := eq_true q251
                      have p252 : 0 ≤ (7 : Int) := (by omega)
                      have q252 : 7 < (t244.length : Int) := of_decide_eq_true (by first | (with_reducible assumption) | assumption)
                      obtain ⟨ad252, e252, hx252_0⟩ := Kd.at_int (Kd.R_reads' HO247.out).2.2 7 p252 q252
                      obtain rfl : ad248 = ad252 := (by injection e252)
                      (try simp only [show (7 : Int).toNat = 7 from rfl, Nat.reduceMul, Nat.reduceEqDiff, Go.Addr.add, ↓reduceIte] at hx252_0)
                      have qi252 : (7 < t244.length) = True := eq_true (by omega)
                      (try rw [show ((7 : Int)).toNat = 7 from rfl] at hx252_0)
                      replace p252 := eq_true p252
                      replace q252 := eq_true q252
                      have p253 : 0 ≤ (8 : Int) := (by omega)
                      have q253 : 8 < (t244.length : Int) := of_decide_eq_true (by first | (with_reducible assumption) | assumption)
                      obtain ⟨ad253, e253, hx253_0⟩ := Kd.at_int (Kd.R_reads' HO247.out).2.2 8 p253 q253
                      obtain rfl : ad248 = ad253 := (by injection e253)
                      (try simp only [show (8 : Int).toNat = 8 from rfl, Nat.reduceMul, Nat.reduceEqDiff, Go.Addr.add, ↓reduceIte] at hx253_0)
                      have qi253 : (8 < t244.length) = True := eq_true (by omega)
                      (try rw [show ((8 : Int)).toNat = 8 from rfl] at hx253_0)
                      replace p253 := eq_true p253
                      replace q253 := eq_true q253
                      have p254 : 0 ≤ (9 : Int) := (by omega)
                      have q254 : 9 < (t244.length : Int) := of_decide_eq_true (by first | (with_reducible assumption) | assumption)
                      obtain ⟨ad254, e254, hx254_0⟩ := Kd.at_int (Kd.R_reads' HO247.out).2.2 9 p254 q254
                      obtain rfl : ad248 = ad254 := (by injection e254)
                      (try simp only [show (9 : Int).toNat = 9 from rfl, Nat.reduceMul, Nat.reduceEqDiff, Go.Addr.add, ↓reduceIte] at hx254_0)
                      have qi254 : (9 < t244.length) = True := eq_true (by omega)
                      (try rw [show ((9 : Int)).toNat = 9 from rfl] at hx254_0)
                      replace p254 := eq_true p254
                      replace q254 := eq_true q254
                      refine start_ (n := 24) (S := fun w' => w'.cell? ⟨ad248.block, ad248.off + 1, none⟩ = some (.int .i64 (rd t244 1)) ∧ w'.cell? ⟨ad248.block, ad248.off + 2, none⟩ = some (.int .i64 (rd t244 2)) ∧ w'.cell? ⟨ad248.block, ad248.off + 3, none⟩ = some (.int .i64 (rd t244 3)) ∧ w'.cell? ⟨ad248.block, ad248.off + 4, none⟩ = some (.int .i64 (rd t244 4)) ∧ w'.cell? ⟨ad248.block, ad248.off + 7, none⟩ = some (.int .i64 (rd t244 7)) ∧ w'.cell? ⟨ad248.block, ad248.off + 8, none⟩ = some (.int .i64 (rd t244 8)) ∧ w'.cell? ⟨ad248.block, ad248.off + 9, none⟩ = some (.int .i64 (rd t244 9))) (ds := []) #[false, false, false, false, false, false, false, false, false, false, false, false, false, false, false, false, false, false, false, false, false, false, false, false] (by kernel_rfl) rfl rfl ⟨hx248_0, hx249_0, hx250_0, hx251_0, hx252_0, hx253_0, hx254_0⟩ (fun hHeld => ?_); refine with_tabW postilionref11_Read.tab4 postilionref11_Read.bits4 (fun HT_ HW_ => ?_)
                      generalize w17.drew = w18 at HO247 BK243 HB hx248_0 hx249_0 hx250_0 hx251_0 hx252_0 hx253_0 hx254_0 hHeld ⊢
                      refine pure_ (i := 0) (N := some 17) (v := ?_) (a' := ?_) #[true, false, false, false, false, false, false, false, false, false, false, false, false, false, false, false, false, false, false, false, false, false, false, false] rfl rfl (any_of HT_.out (by kernel_rfl)) (fun _ _ _ h => h) (Or.inl ⟨by rfl, ?_⟩) ?_ ?_
                      rotate_left
                      · intro w'
                        go_simp
                        with_reducible rfl
                      rotate_left
                      · simp only [Act.put, List.setIfInBounds_toArray, List.set_cons_zero, List.set_cons_succ, i64_w, i32_w]
                        rfl
                      refine pure_ (i := 1) (N := some 18) (v := ?_) (a' := ?_) #[true, true, false, false, false, false, false, false, false, false, false, false, false, false, false, false, false, false, false, false, false, false, false, false] rfl rfl (any_of HT_.out (by kernel_rfl)) (fun _ _ _ h => h) (Or.inl ⟨by rfl, ?_⟩) ?_ ?_
                      rotate_left
                      · intro w'
                        go_simp
                        with_reducible rfl
                      rotate_left
                      · simp only [Act.put, List.setIfInBounds_toArray, List.set_cons_zero, List.set_cons_succ, i64_w, i32_w]
                        rfl
                      refine pure_ (i := 3) (N := some 20) (v := ?_) (a' := ?_) #[true, true, false, true, false, false, false, false, false, false, false, false, false, false, false, false, false, false, false, false, false, false, false, false] rfl rfl (any_of HT_.out (by kernel_rfl)) (fun _ _ _ h => h) (Or.inl ⟨by rfl, ?_⟩) ?_ ?_
                      rotate_left
                      · intro w'
                        go_simp
                        with_reducible rfl
                      rotate_left
                      · simp only [Act.put, List.setIfInBounds_toArray, List.set_cons_zero, List.set_cons_succ, i64_w, i32_w]
                        rfl
                      refine pure_ (i := 4) (N := some 21) (v := ?_) (a' := ?_) #[true, true, false, true, true, false, false, false, false, false, false, false, false, false, false, false, false, false, false, false, false, false, false, false] rfl rfl (any_of HT_.out (by kernel_rfl)) (fun _ _ _ h => h) (Or.inl ⟨by rfl, ?_⟩) ?_ ?_
                      rotate_left
                      · intro w'
                        go_simp
                        with_reducible rfl
                      rotate_left
                      · simp only [Act.put, List.setIfInBounds_toArray, List.set_cons_zero, List.set_cons_succ, i64_w, i32_w]
                        rfl
                      refine pure_ (i := 6) (N := some 23) (v := ?_) (a' := ?_) #[true, true, false, true, true, false, true, false, false, false, false, false, false, false, false, false, false, false, false, false, false, false, false, false] rfl rfl (any_of HT_.out (by kernel_rfl)) (fun _ _ _ h => h) (Or.inl ⟨by rfl, ?_⟩) ?_ ?_
                      rotate_left
                      · intro w'
                        go_simp
                        with_reducible rfl
                      rotate_left
                      · simp only [Act.put, List.setIfInBounds_toArray, List.set_cons_zero, List.set_cons_succ, i64_w, i32_w]
                        rfl
                      refine pure_ (i := 7) (N := some 24) (v := ?_) (a' := ?_) #[true, true, false, true, true, false, true, true, false, false, false, false, false, false, false, false, false, false, false, false, false, false, false, false] rfl rfl (any_of HT_.out (by kernel_rfl)) (fun _ _ _ h => h) (Or.inl ⟨by rfl, ?_⟩) ?_ ?_
                      rotate_left
                      · intro w'
                        go_simp
                        with_reducible rfl
                      rotate_left
                      · simp only [Act.put, List.setIfInBounds_toArray, List.set_cons_zero, List.set_cons_succ, i64_w, i32_w]
                        rfl
                      refine pure_ (i := 9) (N := some 26) (v := ?_) (a' := ?_) #[true, true, false, true, true, false, true, true, false, true, false, false, false, false, false, false, false, false, false, false, false, false, false, false] rfl rfl (any_of HT_.out (by kernel_rfl)) (fun _ _ _ h => h) (Or.inl ⟨by rfl, ?_⟩) ?_ ?_
                      rotate_left
                      · intro w'
                        go_simp
                        with_reducible rfl
                      rotate_left
                      · simp only [Act.put, List.setIfInBounds_toArray, List.set_cons_zero, List.set_cons_succ, i64_w, i32_w]
                        rfl
                      refine pure_ (i := 10) (N := some 27) (v := ?_) (a' := ?_) #[true, true, false, true, true, false, true, true, false, true, true, false, false, false, false, false, false, false, false, false, false, false, false, false] rfl rfl (any_of HT_.out (by kernel_rfl)) (fun _ _ _ h => h) (Or.inl ⟨by rfl, ?_⟩) ?_ ?_
                      rotate_left
                      · intro w'
                        go_simp
                        with_reducible rfl
                      rotate_left
                      · simp only [Act.put, List.setIfInBounds_toArray, List.set_cons_zero, List.set_cons_succ, i64_w, i32_w]
                        rfl
                      refine pure_ (i := 12) (N := some 29) (v := ?_) (a' := ?_) #[true, true, false, true, true, false, true, true, false, true, true, false, true, false, false, false, false, false, false, false, false, false, false, false] rfl rfl (any_of HT_.out (by kernel_rfl)) (fun _ _ _ h => h) (Or.inl ⟨by rfl, ?_⟩) ?_ ?_
                      rotate_left
                      · intro w'
                        go_simp
                        with_reducible rfl
                      rotate_left
                      · simp only [Act.put, List.setIfInBounds_toArray, List.set_cons_zero, List.set_cons_succ, i64_w, i32_w]
                        rfl
                      refine pure_ (i := 13) (N := some 30) (v := ?_) (a' := ?_) #[true, true, false, true, true, false, true, true, false, true, true, false, true, true, false, false, false, false, false, false, false, false, false, false] rfl rfl (any_of HT_.out (by kernel_rfl)) (fun _ _ _ h => h) (Or.inl ⟨by rfl, ?_⟩) ?_ ?_
                      rotate_left
                      · intro w'
                        go_simp
                        with_reducible rfl
                      rotate_left
                      · simp only [Act.put, List.setIfInBounds_toArray, List.set_cons_zero, List.set_cons_succ, i64_w, i32_w]
                        rfl
                      refine pure_ (i := 15) (N := some 32) (v := ?_) (a' := ?_) #[true, true, false, true, true, false, true, true, false, true, true, false, true, true, false, true, false, false, false, false, false, false, false, false] rfl rfl (any_of HT_.out (by kernel_rfl)) (fun _ _ _ h => h) (Or.inl ⟨by rfl, ?_⟩) ?_ ?_
                      rotate_left
                      · intro w'
                        go_simp
                        with_reducible rfl
                      rotate_left
                      · simp only [Act.put, List.setIfInBounds_toArray, List.set_cons_zero, List.set_cons_succ, i64_w, i32_w]
                        rfl
                      refine pure_ (i := 16) (N := some 33) (v := ?_) (a' := ?_) #[true, true, false, true, true, false, true, true, false, true, true, false, true, true, false, true, true, false, false, false, false, false, false, false] rfl rfl (any_of HT_.out (by kernel_rfl)) (fun _ _ _ h => h) (Or.inl ⟨by rfl, ?_⟩) ?_ ?_
                      rotate_left
                      · intro w'
                        go_simp
                        with_reducible rfl
                      rotate_left
                      · simp only [Act.put, List.setIfInBounds_toArray, List.set_cons_zero, List.set_cons_succ, i64_w, i32_w]
                        rfl
                      refine pure_ (i := 18) (N := some 35) (v := ?_) (a' := ?_) #[true, true, false, true, true, false, true, true, false, true, true, false, true, true, false, true, true, false, true, false, false, false, false, false] rfl rfl (any_of HT_.out (by kernel_rfl)) (fun _ _ _ h => h) (Or.inl ⟨by rfl, ?_⟩) ?_ ?_
                      rotate_left
                      · intro w'
                        go_simp
                        with_reducible rfl
                      rotate_left
                      · simp only [Act.put, List.setIfInBounds_toArray, List.set_cons_zero, List.set_cons_succ, i64_w, i32_w]
                        rfl
                      refine pure_ (i := 19) (N := some 36) (v := ?_) (a' := ?_) #[true, true, false, true, true, false, true, true, false, true, true, false, true, true, false, true, true, false, true, true, false, false, false, false] rfl rfl (any_of HT_.out (by kernel_rfl)) (fun _ _ _ h => h) (Or.inl ⟨by rfl, ?_⟩) ?_ ?_
                      rotate_left
                      · intro w'
                        go_simp
                        with_reducible rfl
                      rotate_left
                      · simp only [Act.put, List.setIfInBounds_toArray, List.set_cons_zero, List.set_cons_succ, i64_w, i32_w]
                        rfl
                      refine take_ (i := 2) (N := some 19) (v := ?_) (a' := ?_) #[true, true, true, true, true, false, true, true, false, true, true, false, true, true, false, true, true, false, true, true, false, false, false, false] rfl rfl (take_ofW HT_.out HW_.out (by kernel_rfl)) (fun _ _ _ h => h) (Or.inl ⟨by rfl, ?_⟩) hHeld ?_ ?_
                      rotate_left
                      · rintro w' ⟨s0, s1, s2, s3, s4, s5, s6⟩
                        go_simp
                        with_reducible rfl
                      rotate_left
                      · simp only [Act.put, List.setIfInBounds_toArray, List.set_cons_zero, List.set_cons_succ, i64_w, i32_w]
                        rfl
                      refine take_ (i := 5) (N := some 22) (v := ?_) (a' := ?_) #[true, true, true, true, true, true, true, true, false, true, true, false, true, true, false, true, true, false, true, true, false, false, false, false] rfl rfl (take_ofW HT_.out HW_.out (by kernel_rfl)) (fun _ _ _ h => h) (Or.inl ⟨by rfl, ?_⟩) hHeld ?_ ?_
                      rotate_left
                      · rintro w' ⟨s0, s1, s2, s3, s4, s5, s6⟩
                        go_simp
                        with_reducible rfl
                      rotate_left
                      · simp only [Act.put, List.setIfInBounds_toArray, List.set_cons_zero, List.set_cons_succ, i64_w, i32_w]
                        rfl
                      refine take_ (i := 8) (N := some 25) (v := ?_) (a' := ?_) #[true, true, true, true, true, true, true, true, true, true, true, false, true, true, false, true, true, false, true, true, false, false, false, false] rfl rfl (take_ofW HT_.out HW_.out (by kernel_rfl)) (fun _ _ _ h => h) (Or.inl ⟨by rfl, ?_⟩) hHeld ?_ ?_
                      rotate_left
                      · rintro w' ⟨s0, s1, s2, s3, s4, s5, s6⟩
                        go_simp
                        with_reducible rfl
                      rotate_left
                      · simp only [Act.put, List.setIfInBounds_toArray, List.set_cons_zero, List.set_cons_succ, i64_w, i32_w]
                        rfl
                      refine take_ (i := 11) (N := some 28) (v := ?_) (a' := ?_) #[true, true, true, true, true, true, true, true, true, true, true, true, true, true, false, true, true, false, true, true, false, false, false, false] rfl rfl (take_ofW HT_.out HW_.out (by kernel_rfl)) (fun _ _ _ h => h) (Or.inl ⟨by rfl, ?_⟩) hHeld ?_ ?_
                      rotate_left
                      · rintro w' ⟨s0, s1, s2, s3, s4, s5, s6⟩
                        go_simp
                        with_reducible rfl
                      rotate_left
                      · simp only [Act.put, List.setIfInBounds_toArray, List.set_cons_zero, List.set_cons_succ, i64_w, i32_w]
                        rfl
                      refine take_ (i := 14) (N := some 31) (v := ?_) (a' := ?_) #[true, true, true, true, true, true, true, true, true, true, true, true, true, true, true, true, true, false, true, true, false, false, false, false] rfl rfl (take_ofW HT_.out HW_.out (by kernel_rfl)) (fun _ _ _ h => h) (Or.inl ⟨by rfl, ?_⟩) hHeld ?_ ?_
                      rotate_left
                      · rintro w' ⟨s0, s1, s2, s3, s4, s5, s6⟩
                        go_simp
                        with_reducible rfl
                      rotate_left
                      · simp only [Act.put, List.setIfInBounds_toArray, List.set_cons_zero, List.set_cons_succ, i64_w, i32_w]
                        rfl
                      refine take_ (i := 17) (N := some 34) (v := ?_) (a' := ?_) #[true, true, true, true, true, true, true, true, true, true, true, true, true, true, true, true, true, true, true, true, false, false, false, false] rfl rfl (take_ofW HT_.out HW_.out (by kernel_rfl)) (fun _ _ _ h => h) (Or.inl ⟨by rfl, ?_⟩) hHeld ?_ ?_
                      rotate_left
                      · rintro w' ⟨s0, s1, s2, s3, s4, s5, s6⟩
                        go_simp
                        with_reducible rfl
                      rotate_left
                      · simp only [Act.put, List.setIfInBounds_toArray, List.set_cons_zero, List.set_cons_succ, i64_w, i32_w]
                        rfl
                      refine take_ (i := 20) (N := some 37) (v := ?_) (a' := ?_) #[true, true, true, true, true, true, true, true, true, true, true, true, true, true, true, true, true, true, true, true, true, false, false, false] rfl rfl (take_ofW HT_.out HW_.out (by kernel_rfl)) (fun _ _ _ h => h) (Or.inl ⟨by rfl, ?_⟩) hHeld ?_ ?_
                      rotate_left
                      · rintro w' ⟨s0, s1, s2, s3, s4, s5, s6⟩
                        go_simp
                        with_reducible rfl
                      rotate_left
                      · simp only [Act.put, List.setIfInBounds_toArray, List.set_cons_zero, List.set_cons_succ, i64_w, i32_w]
                        rfl
                      refine pure_ (i := 21) (N := some 38) (v := ?_) (a' := ?_) #[true, true, true, true, true, true, true, true, true, true, true, true, true, true, true, true, true, true, true, true, true, true, false, false] rfl rfl (any_of HT_.out (by kernel_rfl)) (fun _ _ _ h => h) (Or.inl ⟨by rfl, ?_⟩) ?_ ?_
                      rotate_left
                      · intro w'
                        go_simp
                        with_reducible rfl
                      rotate_left
                      · simp only [Act.put, List.setIfInBounds_toArray, List.set_cons_zero, List.set_cons_succ, i64_w, i32_w]
                        rfl
                      refine one_ (i := 22) (N := some 6) #[true, true, true, true, true, true, true, true, true, true, true, true, true, true, true, true, true, true, true, true, true, true, true, false] rfl rfl (one_of HT_.out (by kernel_rfl)) (by decide) (fun K hK => ?_)
                      refine box_step ?hg (N := 6) ?hd (cs := #[.int .i64 0, .int .i64 0, .int .i64 0, .int .i64 0, .int .i64 0, .int .i64 0, .int .i64 0]) (t := 34) ?hr ?_; (case hd => rfl); (case hg => rfl); (case hr => first | (go_simp; done) | (go_simp; rfl))
                      intro gb255 hg w20 hbox hb
                      have HS0_ := (hb.cell (World.block_lt_of_cell? _ _ (hHeld.1))).trans (hHeld.1)
                      have HS1_ := (hb.cell (World.block_lt_of_cell? _ _ (hHeld.2.1))).trans (hHeld.2.1)
                      have HS2_ := (hb.cell (World.block_lt_of_cell? _ _ (hHeld.2.2.1))).trans (hHeld.2.2.1)
                      have HS3_ := (hb.cell (World.block_lt_of_cell? _ _ (hHeld.2.2.2.1))).trans (hHeld.2.2.2.1)
                      have HS4_ := (hb.cell (World.block_lt_of_cell? _ _ (hHeld.2.2.2.2.1))).trans (hHeld.2.2.2.2.1)
                      have HS5_ := (hb.cell (World.block_lt_of_cell? _ _ (hHeld.2.2.2.2.2.1))).trans (hHeld.2.2.2.2.2.1)
                      have HS6_ := (hb.cell (World.block_lt_of_cell? _ _ (hHeld.2.2.2.2.2.2))).trans (hHeld.2.2.2.2.2.2)
                      have n0_ := Aside0.mk (Kd.R_below (by (with_reducible repeat (first | apply Kd.R_alloc | apply Kd.R_drewN | apply Kd.R_drew)); exact HO247.out) hb)
                      have n1_ := Aside0.mk (blk_below (g := gb243) (o := .cells #[.int .i64 0, .int .i64 0, .int .i64 0, .int .i64 0, .int .i64 0, .int .i64 0, .int .i64 0] 34 (0, 0)) (by (with_reducible repeat (first | refine blk_drewN ?_ _ | refine blk_drew ?_ | refine blk_alloc ?_ _)); exact BK243.out) hb)
                      have n2_ := Aside0.mk (below_step (by repeat (first | (with_reducible first | exact HB.out | apply below_alloc | apply pw_below_drewN | apply below_drew1 | refine below_set ?_ GE243.out) | exact HB.out)) hb)
                      have n3_ := Aside0.mk (hbox)
                      have n4_ := Aside0.mk ((by rw [hg]; exact (below_size (by repeat (first | (with_reducible first | exact HB.out | apply below_alloc | apply pw_below_drewN | apply below_drew1 | refine below_set ?_ GE243.out) | exact HB.out))) : w.heap.size ≤ gb255))
                      have n5_ := Aside0.mk ((by rw [hg]; exact (below_size (by repeat (first | (with_reducible first | exact HB.out | apply below_alloc | apply pw_below_drewN | apply below_drew1 | refine below_set ?_ GE243.out) | exact HB.out))) : w.heap.size ≤ gb255))
                      have n6_ := Aside0.mk ((by rw [hg]; exact Nat.ne_of_lt (blk_lt (g := gb243) (o := .cells #[.int .i64 0, .int .i64 0, .int .i64 0, .int .i64 0, .int .i64 0, .int .i64 0, .int .i64 0] 34 (0, 0)) (by (with_reducible repeat (first | refine blk_drewN ?_ _ | refine blk_drew ?_ | refine blk_alloc ?_ _)); exact BK243.out)) : gb243 ≠ gb255))
                      have n7_ := Aside0.mk ((by rw [hg]; exact Nat.ne_of_gt (blk_lt (g := gb243) (o := .cells #[.int .i64 0, .int .i64 0, .int .i64 0, .int .i64 0, .int .i64 0, .int .i64 0, .int .i64 0] 34 (0, 0)) (by (with_reducible repeat (first | refine blk_drewN ?_ _ | refine blk_drew ?_ | refine blk_alloc ?_ _)); exact BK243.out)) : gb255 ≠ gb243))
                      clear HO247
                      clear BK243
                      clear HB
                      have HO247 := n0_
                      have BK243 := n1_
                      have HB := n2_
                      have BK255 := n3_
                      have GW255 := n4_
                      have GE255 := n5_
                      have NB243_255 := n6_
                      have NB255_243 := n7_
                      clear n0_ n1_ n2_ n3_ n4_ n5_ n6_ n7_
                      clear hb hbox hg
                      refine hK.out _ _ ⟨HS0_, HS1_, HS2_, HS3_, HS4_, HS5_, HS6_⟩ (fun hHeld => ?_)
                      clear hK K
                      refine norm_ (a' := ?_) ?_ ?_
                      rotate_left
                      · show Act.put _ (some 6) _ = _
                        simp only [Act.put, List.setIfInBounds_toArray, List.set_cons_zero, List.set_cons_succ, i64_w, i32_w]
                        rfl
                      refine one_ (i := 23) (N := none) #[true, true, true, true, true, true, true, true, true, true, true, true, true, true, true, true, true, true, true, true, true, true, true, true] rfl rfl (one_of HT_.out (by kernel_rfl)) (by decide) (fun K hK => ?_)
                      have hs21 : w20.cell? ⟨gb255, 0, none⟩ = some (.int .i64 0) := (blk_cell BK255.out 0).trans rfl
                      have hfs21 := blk_frozen BK255.out 0
                      have hns21_0 := NB243_255.out
                      have hms21_0 := NB255_243.out
                      have hs22 : w20.cell? ⟨gb255, 1, none⟩ = some (.int .i64 0) := (blk_cell BK255.out 1).trans rfl
                      have hfs22 := blk_frozen BK255.out 1
                      have hns22_0 := NB243_255.out
                      have hms22_0 := NB255_243.out
                      have hs23 : w20.cell? ⟨gb255, 2, none⟩ = some (.int .i64 0) := (blk_cell BK255.out 2).trans rfl
                      have hfs23 := blk_frozen BK255.out 2
                      have hns23_0 := NB243_255.out
                      have hms23_0 := NB255_243.out
                      have hs24 : w20.cell? ⟨gb255, 3, none⟩ = some (.int .i64 0) := (blk_cell BK255.out 3).trans rfl
                      have hfs24 := blk_frozen BK255.out 3
                      have hns24_0 := NB243_255.out
                      have hms24_0 := NB255_243.out
                      have hs25 : w20.cell? ⟨gb255, 4, none⟩ = some (.int .i64 0) := (blk_cell BK255.out 4).trans rfl
                      have hfs25 := blk_frozen BK255.out 4
                      have hns25_0 := NB243_255.out
                      have hms25_0 := NB255_243.out
                      have hs26 : w20.cell? ⟨gb255, 5, none⟩ = some (.int .i64 0) := (blk_cell BK255.out 5).trans rfl
                      have hfs26 := blk_frozen BK255.out 5
                      have hns26_0 := NB243_255.out
                      have hms26_0 := NB255_243.out
                      have hs27 : w20.cell? ⟨gb255, 6, none⟩ = some (.int .i64 0) := (blk_cell BK255.out 6).trans rfl
                      have hfs27 := blk_frozen BK255.out 6
                      have hns27_0 := NB243_255.out
                      have hms27_0 := NB255_243.out
                      refine skip_ (w1 := ?_) (by rfl) rfl ?_ ?_
                      rotate_left
                      · go_simp
                        rfl
                      refine hK.out _ _ ⟨((cell_far (p := ⟨gb255, _, none⟩) (by first | exact Kd.own_blk (Kd.R_ne HO247.out BK255.out (by decide)) | (rw [add_block]; exact Kd.own_blk (Kd.R_ne HO247.out BK255.out (by decide))) | (show (Addr.add _ _).block ≠ _; rw [add_block]; exact Kd.own_blk (Kd.R_ne HO247.out BK255.out (by decide))) | (dsimp only; exact Kd.own_blk (Kd.R_ne HO247.out BK255.out (by decide)))) _).trans (((cell_far (p := ⟨gb255, _, none⟩) (by first | exact Kd.own_blk (Kd.R_ne HO247.out BK255.out (by decide)) | (rw [add_block]; exact Kd.own_blk (Kd.R_ne HO247.out BK255.out (by decide))) | (show (Addr.add _ _).block ≠ _; rw [add_block]; exact Kd.own_blk (Kd.R_ne HO247.out BK255.out (by decide))) | (dsimp only; exact Kd.own_blk (Kd.R_ne HO247.out BK255.out (by decide)))) _).trans (((cell_far (p := ⟨gb255, _, none⟩) (by first | exact Kd.own_blk (Kd.R_ne HO247.out BK255.out (by decide)) | (rw [add_block]; exact Kd.own_blk (Kd.R_ne HO247.out BK255.out (by decide))) | (show (Addr.add _ _).block ≠ _; rw [add_block]; exact Kd.own_blk (Kd.R_ne HO247.out BK255.out (by decide))) | (dsimp only; exact Kd.own_blk (Kd.R_ne HO247.out BK255.out (by decide)))) _).trans (((cell_far (p := ⟨gb255, _, none⟩) (by first | exact Kd.own_blk (Kd.R_ne HO247.out BK255.out (by decide)) | (rw [add_block]; exact Kd.own_blk (Kd.R_ne HO247.out BK255.out (by decide))) | (show (Addr.add _ _).block ≠ _; rw [add_block]; exact Kd.own_blk (Kd.R_ne HO247.out BK255.out (by decide))) | (dsimp only; exact Kd.own_blk (Kd.R_ne HO247.out BK255.out (by decide)))) _).trans (((cell_far (p := ⟨gb255, _, none⟩) (by first | exact Kd.own_blk (Kd.R_ne HO247.out BK255.out (by decide)) | (rw [add_block]; exact Kd.own_blk (Kd.R_ne HO247.out BK255.out (by decide))) | (show (Addr.add _ _).block ≠ _; rw [add_block]; exact Kd.own_blk (Kd.R_ne HO247.out BK255.out (by decide))) | (dsimp only; exact Kd.own_blk (Kd.R_ne HO247.out BK255.out (by decide)))) _).trans (((cell_far (p := ⟨gb255, _, none⟩) (by first | exact Kd.own_blk (Kd.R_ne HO247.out BK255.out (by decide)) | (rw [add_block]; exact Kd.own_blk (Kd.R_ne HO247.out BK255.out (by decide))) | (show (Addr.add _ _).block ≠ _; rw [add_block]; exact Kd.own_blk (Kd.R_ne HO247.out BK255.out (by decide))) | (dsimp only; exact Kd.own_blk (Kd.R_ne HO247.out BK255.out (by decide)))) _).trans (((cell_far (p := ⟨gb255, _, none⟩) (by first | exact Kd.own_blk (Kd.R_ne HO247.out BK255.out (by decide)) | (rw [add_block]; exact Kd.own_blk (Kd.R_ne HO247.out BK255.out (by decide))) | (show (Addr.add _ _).block ≠ _; rw [add_block]; exact Kd.own_blk (Kd.R_ne HO247.out BK255.out (by decide))) | (dsimp only; exact Kd.own_blk (Kd.R_ne HO247.out BK255.out (by decide)))) _).trans (hHeld.1)))))))))))))), ((cell_far (p := ⟨gb255, _, none⟩) (by first | exact Kd.own_blk (Kd.R_ne HO247.out BK255.out (by decide)) | (rw [add_block]; exact Kd.own_blk (Kd.R_ne HO247.out BK255.out (by decide))) | (show (Addr.add _ _).block ≠ _; rw [add_block]; exact Kd.own_blk (Kd.R_ne HO247.out BK255.out (by decide))) | (dsimp only; exact Kd.own_blk (Kd.R_ne HO247.out BK255.out (by decide)))) _).trans (((cell_far (p := ⟨gb255, _, none⟩) (by first | exact Kd.own_blk (Kd.R_ne HO247.out BK255.out (by decide)) | (rw [add_block]; exact Kd.own_blk (Kd.R_ne HO247.out BK255.out (by decide))) | (show (Addr.add _ _).block ≠ _; rw [add_block]; exact Kd.own_blk (Kd.R_ne HO247.out BK255.out (by decide))) | (dsimp only; exact Kd.own_blk (Kd.R_ne HO247.out BK255.out (by decide)))) _).trans (((cell_far (p := ⟨gb255, _, none⟩) (by first | exact Kd.own_blk (Kd.R_ne HO247.out BK255.out (by decide)) | (rw [add_block]; exact Kd.own_blk (Kd.R_ne HO247.out BK255.out (by decide))) | (show (Addr.add _ _).block ≠ _; rw [add_block]; exact Kd.own_blk (Kd.R_ne HO247.out BK255.out (by decide))) | (dsimp only; exact Kd.own_blk (Kd.R_ne HO247.out BK255.out (by decide)))) _).trans (((cell_far (p := ⟨gb255, _, none⟩) (by first | exact Kd.own_blk (Kd.R_ne HO247.out BK255.out (by decide)) | (rw [add_block]; exact Kd.own_blk (Kd.R_ne HO247.out BK255.out (by decide))) | (show (Addr.add _ _).block ≠ _; rw [add_block]; exact Kd.own_blk (Kd.R_ne HO247.out BK255.out (by decide))) | (dsimp only; exact Kd.own_blk (Kd.R_ne HO247.out BK255.out (by decide)))) _).trans (((cell_far (p := ⟨gb255, _, none⟩) (by first | exact Kd.own_blk (Kd.R_ne HO247.out BK255.out (by decide)) | (rw [add_block]; exact Kd.own_blk (Kd.R_ne HO247.out BK255.out (by decide))) | (show (Addr.add _ _).block ≠ _; rw [add_block]; exact Kd.own_blk (Kd.R_ne HO247.out BK255.out (by decide))) | (dsimp only; exact Kd.own_blk (Kd.R_ne HO247.out BK255.out (by decide)))) _).trans (((cell_far (p := ⟨gb255, _, none⟩) (by first | exact Kd.own_blk (Kd.R_ne HO247.out BK255.out (by decide)) | (rw [add_block]; exact Kd.own_blk (Kd.R_ne HO247.out BK255.out (by decide))) | (show (Addr.add _ _).block ≠ _; rw [add_block]; exact Kd.own_blk (Kd.R_ne HO247.out BK255.out (by decide))) | (dsimp only; exact Kd.own_blk (Kd.R_ne HO247.out BK255.out (by decide)))) _).trans (((cell_far (p := ⟨gb255, _, none⟩) (by first | exact Kd.own_blk (Kd.R_ne HO247.out BK255.out (by decide)) | (rw [add_block]; exact Kd.own_blk (Kd.R_ne HO247.out BK255.out (by decide))) | (show (Addr.add _ _).block ≠ _; rw [add_block]; exact Kd.own_blk (Kd.R_ne HO247.out BK255.out (by decide))) | (dsimp only; exact Kd.own_blk (Kd.R_ne HO247.out BK255.out (by decide)))) _).trans (hHeld.2.1)))))))))))))), ((cell_far (p := ⟨gb255, _, none⟩) (by first | exact Kd.own_blk (Kd.R_ne HO247.out BK255.out (by decide)) | (rw [add_block]; exact Kd.own_blk (Kd.R_ne HO247.out BK255.out (by decide))) | (show (Addr.add _ _).block ≠ _; rw [add_block]; exact Kd.own_blk (Kd.R_ne HO247.out BK255.out (by decide))) | (dsimp only; exact Kd.own_blk (Kd.R_ne HO247.out BK255.out (by decide)))) _).trans (((cell_far (p := ⟨gb255, _, none⟩) (by first | exact Kd.own_blk (Kd.R_ne HO247.out BK255.out (by decide)) | (rw [add_block]; exact Kd.own_blk (Kd.R_ne HO247.out BK255.out (by decide))) | (show (Addr.add _ _).block ≠ _; rw [add_block]; exact Kd.own_blk (Kd.R_ne HO247.out BK255.out (by decide))) | (dsimp only; exact Kd.own_blk (Kd.R_ne HO247.out BK255.out (by decide)))) _).trans (((cell_far (p := ⟨gb255, _, none⟩) (by first | exact Kd.own_blk (Kd.R_ne HO247.out BK255.out (by decide)) | (rw [add_block]; exact Kd.own_blk (Kd.R_ne HO247.out BK255.out (by decide))) | (show (Addr.add _ _).block ≠ _; rw [add_block]; exact Kd.own_blk (Kd.R_ne HO247.out BK255.out (by decide))) | (dsimp only; exact Kd.own_blk (Kd.R_ne HO247.out BK255.out (by decide)))) _).trans (((cell_far (p := ⟨gb255, _, none⟩) (by first | exact Kd.own_blk (Kd.R_ne HO247.out BK255.out (by decide)) | (rw [add_block]; exact Kd.own_blk (Kd.R_ne HO247.out BK255.out (by decide))) | (show (Addr.add _ _).block ≠ _; rw [add_block]; exact Kd.own_blk (Kd.R_ne HO247.out BK255.out (by decide))) | (dsimp only; exact Kd.own_blk (Kd.R_ne HO247.out BK255.out (by decide)))) _).trans (((cell_far (p := ⟨gb255, _, none⟩) (by first | exact Kd.own_blk (Kd.R_ne HO247.out BK255.out (by decide)) | (rw [add_block]; exact Kd.own_blk (Kd.R_ne HO247.out BK255.out (by decide))) | (show (Addr.add _ _).block ≠ _; rw [add_block]; exact Kd.own_blk (Kd.R_ne HO247.out BK255.out (by decide))) | (dsimp only; exact Kd.own_blk (Kd.R_ne HO247.out BK255.out (by decide)))) _).trans (((cell_far (p := ⟨gb255, _, none⟩) (by first | exact Kd.own_blk (Kd.R_ne HO247.out BK255.out (by decide)) | (rw [add_block]; exact Kd.own_blk (Kd.R_ne HO247.out BK255.out (by decide))) | (show (Addr.add _ _).block ≠ _; rw [add_block]; exact Kd.own_blk (Kd.R_ne HO247.out BK255.out (by decide))) | (dsimp only; exact Kd.own_blk (Kd.R_ne HO247.out BK255.out (by decide)))) _).trans (((cell_far (p := ⟨gb255, _, none⟩) (by first | exact Kd.own_blk (Kd.R_ne HO247.out BK255.out (by decide)) | (rw [add_block]; exact Kd.own_blk (Kd.R_ne HO247.out BK255.out (by decide))) | (show (Addr.add _ _).block ≠ _; rw [add_block]; exact Kd.own_blk (Kd.R_ne HO247.out BK255.out (by decide))) | (dsimp only; exact Kd.own_blk (Kd.R_ne HO247.out BK255.out (by decide)))) _).trans (hHeld.2.2.1)))))))))))))), ((cell_far (p := ⟨gb255, _, none⟩) (by first | exact Kd.own_blk (Kd.R_ne HO247.out BK255.out (by decide)) | (rw [add_block]; exact Kd.own_blk (Kd.R_ne HO247.out BK255.out (by decide))) | (show (Addr.add _ _).block ≠ _; rw [add_block]; exact Kd.own_blk (Kd.R_ne HO247.out BK255.out (by decide))) | (dsimp only; exact Kd.own_blk (Kd.R_ne HO247.out BK255.out (by decide)))) _).trans (((cell_far (p := ⟨gb255, _, none⟩) (by first | exact Kd.own_blk (Kd.R_ne HO247.out BK255.out (by decide)) | (rw [add_block]; exact Kd.own_blk (Kd.R_ne HO247.out BK255.out (by decide))) | (show (Addr.add _ _).block ≠ _; rw [add_block]; exact Kd.own_blk (Kd.R_ne HO247.out BK255.out (by decide))) | (dsimp only; exact Kd.own_blk (Kd.R_ne HO247.out BK255.out (by decide)))) _).trans (((cell_far (p := ⟨gb255, _, none⟩) (by first | exact Kd.own_blk (Kd.R_ne HO247.out BK255.out (by decide)) | (rw [add_block]; exact Kd.own_blk (Kd.R_ne HO247.out BK255.out (by decide))) | (show (Addr.add _ _).block ≠ _; rw [add_block]; exact Kd.own_blk (Kd.R_ne HO247.out BK255.out (by decide))) | (dsimp only; exact Kd.own_blk (Kd.R_ne HO247.out BK255.out (by decide)))) _).trans (((cell_far (p := ⟨gb255, _, none⟩) (by first | exact Kd.own_blk (Kd.R_ne HO247.out BK255.out (by decide)) | (rw [add_block]; exact Kd.own_blk (Kd.R_ne HO247.out BK255.out (by decide))) | (show (Addr.add _ _).block ≠ _; rw [add_block]; exact Kd.own_blk (Kd.R_ne HO247.out BK255.out (by decide))) | (dsimp only; exact Kd.own_blk (Kd.R_ne HO247.out BK255.out (by decide)))) _).trans (((cell_far (p := ⟨gb255, _, none⟩) (by first | exact Kd.own_blk (Kd.R_ne HO247.out BK255.out (by decide)) | (rw [add_block]; exact Kd.own_blk (Kd.R_ne HO247.out BK255.out (by decide))) | (show (Addr.add _ _).block ≠ _; rw [add_block]; exact Kd.own_blk (Kd.R_ne HO247.out BK255.out (by decide))) | (dsimp only; exact Kd.own_blk (Kd.R_ne HO247.out BK255.out (by decide)))) _).trans (((cell_far (p := ⟨gb255, _, none⟩) (by first | exact Kd.own_blk (Kd.R_ne HO247.out BK255.out (by decide)) | (rw [add_block]; exact Kd.own_blk (Kd.R_ne HO247.out BK255.out (by decide))) | (show (Addr.add _ _).block ≠ _; rw [add_block]; exact Kd.own_blk (Kd.R_ne HO247.out BK255.out (by decide))) | (dsimp only; exact Kd.own_blk (Kd.R_ne HO247.out BK255.out (by decide)))) _).trans (((cell_far (p := ⟨gb255, _, none⟩) (by first | exact Kd.own_blk (Kd.R_ne HO247.out BK255.out (by decide)) | (rw [add_block]; exact Kd.own_blk (Kd.R_ne HO247.out BK255.out (by decide))) | (show (Addr.add _ _).block ≠ _; rw [add_block]; exact Kd.own_blk (Kd.R_ne HO247.out BK255.out (by decide))) | (dsimp only; exact Kd.own_blk (Kd.R_ne HO247.out BK255.out (by decide)))) _).trans (hHeld.2.2.2.1)))))))))))))), ((cell_far (p := ⟨gb255, _, none⟩) (by first | exact Kd.own_blk (Kd.R_ne HO247.out BK255.out (by decide)) | (rw [add_block]; exact Kd.own_blk (Kd.R_ne HO247.out BK255.out (by decide))) | (show (Addr.add _ _).block ≠ _; rw [add_block]; exact Kd.own_blk (Kd.R_ne HO247.out BK255.out (by decide))) | (dsimp only; exact Kd.own_blk (Kd.R_ne HO247.out BK255.out (by decide)))) _).trans (((cell_far (p := ⟨gb255, _, none⟩) (by first | exact Kd.own_blk (Kd.R_ne HO247.out BK255.out (by decide)) | (rw [add_block]; exact Kd.own_blk (Kd.R_ne HO247.out BK255.out (by decide))) | (show (Addr.add _ _).block ≠ _; rw [add_block]; exact Kd.own_blk (Kd.R_ne HO247.out BK255.out (by decide))) | (dsimp only; exact Kd.own_blk (Kd.R_ne HO247.out BK255.out (by decide)))) _).trans (((cell_far (p := ⟨gb255, _, none⟩) (by first | exact Kd.own_blk (Kd.R_ne HO247.out BK255.out (by decide)) | (rw [add_block]; exact Kd.own_blk (Kd.R_ne HO247.out BK255.out (by decide))) | (show (Addr.add _ _).block ≠ _; rw [add_block]; exact Kd.own_blk (Kd.R_ne HO247.out BK255.out (by decide))) | (dsimp only; exact Kd.own_blk (Kd.R_ne HO247.out BK255.out (by decide)))) _).trans (((cell_far (p := ⟨gb255, _, none⟩) (by first | exact Kd.own_blk (Kd.R_ne HO247.out BK255.out (by decide)) | (rw [add_block]; exact Kd.own_blk (Kd.R_ne HO247.out BK255.out (by decide))) | (show (Addr.add _ _).block ≠ _; rw [add_block]; exact Kd.own_blk (Kd.R_ne HO247.out BK255.out (by decide))) | (dsimp only; exact Kd.own_blk (Kd.R_ne HO247.out BK255.out (by decide)))) _).trans (((cell_far (p := ⟨gb255, _, none⟩) (by first | exact Kd.own_blk (Kd.R_ne HO247.out BK255.out (by decide)) | (rw [add_block]; exact Kd.own_blk (Kd.R_ne HO247.out BK255.out (by decide))) | (show (Addr.add _ _).block ≠ _; rw [add_block]; exact Kd.own_blk (Kd.R_ne HO247.out BK255.out (by decide))) | (dsimp only; exact Kd.own_blk (Kd.R_ne HO247.out BK255.out (by decide)))) _).trans (((cell_far (p := ⟨gb255, _, none⟩) (by first | exact Kd.own_blk (Kd.R_ne HO247.out BK255.out (by decide)) | (rw [add_block]; exact Kd.own_blk (Kd.R_ne HO247.out BK255.out (by decide))) | (show (Addr.add _ _).block ≠ _; rw [add_block]; exact Kd.own_blk (Kd.R_ne HO247.out BK255.out (by decide))) | (dsimp only; exact Kd.own_blk (Kd.R_ne HO247.out BK255.out (by decide)))) _).trans (((cell_far (p := ⟨gb255, _, none⟩) (by first | exact Kd.own_blk (Kd.R_ne HO247.out BK255.out (by decide)) | (rw [add_block]; exact Kd.own_blk (Kd.R_ne HO247.out BK255.out (by decide))) | (show (Addr.add _ _).block ≠ _; rw [add_block]; exact Kd.own_blk (Kd.R_ne HO247.out BK255.out (by decide))) | (dsimp only; exact Kd.own_blk (Kd.R_ne HO247.out BK255.out (by decide)))) _).trans (hHeld.2.2.2.2.1)))))))))))))), ((cell_far (p := ⟨gb255, _, none⟩) (by first | exact Kd.own_blk (Kd.R_ne HO247.out BK255.out (by decide)) | (rw [add_block]; exact Kd.own_blk (Kd.R_ne HO247.out BK255.out (by decide))) | (show (Addr.add _ _).block ≠ _; rw [add_block]; exact Kd.own_blk (Kd.R_ne HO247.out BK255.out (by decide))) | (dsimp only; exact Kd.own_blk (Kd.R_ne HO247.out BK255.out (by decide)))) _).trans (((cell_far (p := ⟨gb255, _, none⟩) (by first | exact Kd.own_blk (Kd.R_ne HO247.out BK255.out (by decide)) | (rw [add_block]; exact Kd.own_blk (Kd.R_ne HO247.out BK255.out (by decide))) | (show (Addr.add _ _).block ≠ _; rw [add_block]; exact Kd.own_blk (Kd.R_ne HO247.out BK255.out (by decide))) | (dsimp only; exact Kd.own_blk (Kd.R_ne HO247.out BK255.out (by decide)))) _).trans (((cell_far (p := ⟨gb255, _, none⟩) (by first | exact Kd.own_blk (Kd.R_ne HO247.out BK255.out (by decide)) | (rw [add_block]; exact Kd.own_blk (Kd.R_ne HO247.out BK255.out (by decide))) | (show (Addr.add _ _).block ≠ _; rw [add_block]; exact Kd.own_blk (Kd.R_ne HO247.out BK255.out (by decide))) | (dsimp only; exact Kd.own_blk (Kd.R_ne HO247.out BK255.out (by decide)))) _).trans (((cell_far (p := ⟨gb255, _, none⟩) (by first | exact Kd.own_blk (Kd.R_ne HO247.out BK255.out (by decide)) | (rw [add_block]; exact Kd.own_blk (Kd.R_ne HO247.out BK255.out (by decide))) | (show (Addr.add _ _).block ≠ _; rw [add_block]; exact Kd.own_blk (Kd.R_ne HO247.out BK255.out (by decide))) | (dsimp only; exact Kd.own_blk (Kd.R_ne HO247.out BK255.out (by decide)))) _).trans (((cell_far (p := ⟨gb255, _, none⟩) (by first | exact Kd.own_blk (Kd.R_ne HO247.out BK255.out (by decide)) | (rw [add_block]; exact Kd.own_blk (Kd.R_ne HO247.out BK255.out (by decide))) | (show (Addr.add _ _).block ≠ _; rw [add_block]; exact Kd.own_blk (Kd.R_ne HO247.out BK255.out (by decide))) | (dsimp only; exact Kd.own_blk (Kd.R_ne HO247.out BK255.out (by decide)))) _).trans (((cell_far (p := ⟨gb255, _, none⟩) (by first | exact Kd.own_blk (Kd.R_ne HO247.out BK255.out (by decide)) | (rw [add_block]; exact Kd.own_blk (Kd.R_ne HO247.out BK255.out (by decide))) | (show (Addr.add _ _).block ≠ _; rw [add_block]; exact Kd.own_blk (Kd.R_ne HO247.out BK255.out (by decide))) | (dsimp only; exact Kd.own_blk (Kd.R_ne HO247.out BK255.out (by decide)))) _).trans (((cell_far (p := ⟨gb255, _, none⟩) (by first | exact Kd.own_blk (Kd.R_ne HO247.out BK255.out (by decide)) | (rw [add_block]; exact Kd.own_blk (Kd.R_ne HO247.out BK255.out (by decide))) | (show (Addr.add _ _).block ≠ _; rw [add_block]; exact Kd.own_blk (Kd.R_ne HO247.out BK255.out (by decide))) | (dsimp only; exact Kd.own_blk (Kd.R_ne HO247.out BK255.out (by decide)))) _).trans (hHeld.2.2.2.2.2.1)))))))))))))), ((cell_far (p := ⟨gb255, _, none⟩) (by first | exact Kd.own_blk (Kd.R_ne HO247.out BK255.out (by decide)) | (rw [add_block]; exact Kd.own_blk (Kd.R_ne HO247.out BK255.out (by decide))) | (show (Addr.add _ _).block ≠ _; rw [add_block]; exact Kd.own_blk (Kd.R_ne HO247.out BK255.out (by decide))) | (dsimp only; exact Kd.own_blk (Kd.R_ne HO247.out BK255.out (by decide)))) _).trans (((cell_far (p := ⟨gb255, _, none⟩) (by first | exact Kd.own_blk (Kd.R_ne HO247.out BK255.out (by decide)) | (rw [add_block]; exact Kd.own_blk (Kd.R_ne HO247.out BK255.out (by decide))) | (show (Addr.add _ _).block ≠ _; rw [add_block]; exact Kd.own_blk (Kd.R_ne HO247.out BK255.out (by decide))) | (dsimp only; exact Kd.own_blk (Kd.R_ne HO247.out BK255.out (by decide)))) _).trans (((cell_far (p := ⟨gb255, _, none⟩) (by first | exact Kd.own_blk (Kd.R_ne HO247.out BK255.out (by decide)) | (rw [add_block]; exact Kd.own_blk (Kd.R_ne HO247.out BK255.out (by decide))) | (show (Addr.add _ _).block ≠ _; rw [add_block]; exact Kd.own_blk (Kd.R_ne HO247.out BK255.out (by decide))) | (dsimp only; exact Kd.own_blk (Kd.R_ne HO247.out BK255.out (by decide)))) _).trans (((cell_far (p := ⟨gb255, _, none⟩) (by first | exact Kd.own_blk (Kd.R_ne HO247.out BK255.out (by decide)) | (rw [add_block]; exact Kd.own_blk (Kd.R_ne HO247.out BK255.out (by decide))) | (show (Addr.add _ _).block ≠ _; rw [add_block]; exact Kd.own_blk (Kd.R_ne HO247.out BK255.out (by decide))) | (dsimp only; exact Kd.own_blk (Kd.R_ne HO247.out BK255.out (by decide)))) _).trans (((cell_far (p := ⟨gb255, _, none⟩) (by first | exact Kd.own_blk (Kd.R_ne HO247.out BK255.out (by decide)) | (rw [add_block]; exact Kd.own_blk (Kd.R_ne HO247.out BK255.out (by decide))) | (show (Addr.add _ _).block ≠ _; rw [add_block]; exact Kd.own_blk (Kd.R_ne HO247.out BK255.out (by decide))) | (dsimp only; exact Kd.own_blk (Kd.R_ne HO247.out BK255.out (by decide)))) _).trans (((cell_far (p := ⟨gb255, _, none⟩) (by first | exact Kd.own_blk (Kd.R_ne HO247.out BK255.out (by decide)) | (rw [add_block]; exact Kd.own_blk (Kd.R_ne HO247.out BK255.out (by decide))) | (show (Addr.add _ _).block ≠ _; rw [add_block]; exact Kd.own_blk (Kd.R_ne HO247.out BK255.out (by decide))) | (dsimp only; exact Kd.own_blk (Kd.R_ne HO247.out BK255.out (by decide)))) _).trans (((cell_far (p := ⟨gb255, _, none⟩) (by first | exact Kd.own_blk (Kd.R_ne HO247.out BK255.out (by decide)) | (rw [add_block]; exact Kd.own_blk (Kd.R_ne HO247.out BK255.out (by decide))) | (show (Addr.add _ _).block ≠ _; rw [add_block]; exact Kd.own_blk (Kd.R_ne HO247.out BK255.out (by decide))) | (dsimp only; exact Kd.own_blk (Kd.R_ne HO247.out BK255.out (by decide)))) _).trans (hHeld.2.2.2.2.2.2))))))))))))))⟩ (fun hHeld => ?_)
                      clear hK K
                      refine done_ (done_of HT_.out (by kernel_rfl)) ?_
                      go_upto_region 5 with (fail)
                      go_cut [39] (fun v39 wc => ∃ (kq : Nat) (x39_14 : Bool), v39 = .bool x39_14 ∧ Aside0 (postilionref11_Read.j0 kq a0 x39_14 (rd t244 1) (rd t244 2) (rd t244 3) (rd t244 4) (rd t244 7) (rd t244 8) (rd t244 9) = some (r1, r2, r3, r4, r5, r6, r7, r8)) ∧ Aside0 (kq ≤ k) ∧ Aside0 (wc.heap[gb243]? = some (.cells #[.int .i64 0, .int .i64 0, .int .i64 0, .int .i64 0, .int .i64 0, .int .i64 0, .int .i64 0] 34 (0, 0))) ∧ Aside0 (wc.heap[gb255]? = some (.cells #[.int .i64 (rd t244 1), .int .i64 (rd t244 2), .int .i64 (rd t244 3), .int .i64 (rd t244 4), .int .i64 (rd t244 7), .int .i64 (rd t244 8), .int .i64 (rd t244 9)] 34 (0, 0))) ∧ Aside0 (Below w.heap.size w wc))
                      case first =>
                        have H := HC15.out
                        clear HC15
                        by_cases c28 : 0 < (t244.length : Int)
                        · rw [if_pos c28] at H
                          have c28b0 : decide (0 < (t244.length : Int)) = true := decide_eq_true c28
                          have c28b1 : decide (0 < t244.length) = true := decide_eq_true (by omega)
                          clear c28
                          (first | rw [c28b0] | (simp only [i64_w, i32_w]; rw [c28b0]) | skip)
                          by_cases c29 : (rd t244 0) = 3490578157
                          · rw [if_pos c29] at H
                            have c29b0 : ((rd t244 0) == 3490578157) = true := beq_iff_eq.mpr c29
                            have c29b1 : ((rd t244 0) != 3490578157) = false := bne_eq_false_iff_eq.mpr c29
                            clear c29
                            by_cases c30 : 5 < (t244.length : Int)
                            · rw [if_pos c30] at H
                              have c30b0 : decide (5 < (t244.length : Int)) = true := decide_eq_true c30
                              have c30b1 : decide (5 < t244.length) = true := decide_eq_true (by omega)
                              clear c30
                              by_cases c31 : (rd t244 5) < 17
                              · rw [if_pos c31] at H
                                have c31b0 : decide ((rd t244 5) < 17) = true := decide_eq_true c31
                                clear c31
                                have H' := Aside0.mk H
                                clear H
                                have p256 : 0 ≤ (0 : Int) := (by omega)
                                have q256 : 0 < (t244.length : Int) := of_decide_eq_true (by first | (with_reducible assumption) | assumption)
                                obtain ⟨ad256, e256, hx256_0⟩ := Kd.at_int (Kd.R_reads' HO247.out).2.2 0 p256 q256
                                obtain rfl : ad248 = ad256 := (by injection e256)
                                have qi256 : (0 < t244.length) = True := eq_true (by omega)
                                (try rw [show ((0 : Int)).toNat = 0 from rfl] at hx256_0)
                                (try rw [Addr.add_zero'] at hx256_0)
                                have hn256_0 : ad248.block ≠ gb255 := Kd.own_blk (Kd.R_ne HO247.out BK255.out (by decide))
                                have hn256_1 : ad248.block ≠ gb255 := Kd.own_blk (Kd.R_ne HO247.out BK255.out (by decide))
                                have hn256_2 : ad248.block ≠ gb255 := Kd.own_blk (Kd.R_ne HO247.out BK255.out (by decide))
                                have hn256_3 : ad248.block ≠ gb255 := Kd.own_blk (Kd.R_ne HO247.out BK255.out (by decide))
                                have hn256_4 : ad248.block ≠ gb255 := Kd.own_blk (Kd.R_ne HO247.out BK255.out (by decide))
                                have hn256_5 : ad248.block ≠ gb255 := Kd.own_blk (Kd.R_ne HO247.out BK255.out (by decide))
                                have hn256_6 : ad248.block ≠ gb255 := Kd.own_blk (Kd.R_ne HO247.out BK255.out (by decide))
                                replace hx256_0 := (cell_far (p := ⟨gb255, 0, none⟩) (by first | (rw [add_block]; exact hn256_0) | (show (Addr.add _ _).block ≠ _; rw [add_block]; exact hn256_0) | exact hn256_0) (.int .i64 (rd t244 1))).trans hx256_0
                                replace hx256_0 := (cell_far (p := ⟨gb255, 1, none⟩) (by first | (rw [add_block]; exact hn256_1) | (show (Addr.add _ _).block ≠ _; rw [add_block]; exact hn256_1) | exact hn256_1) (.int .i64 (rd t244 2))).trans hx256_0
                                replace hx256_0 := (cell_far (p := ⟨gb255, 2, none⟩) (by first | (rw [add_block]; exact hn256_2) | (show (Addr.add _ _).block ≠ _; rw [add_block]; exact hn256_2) | exact hn256_2) (.int .i64 (rd t244 3))).trans hx256_0
                                replace hx256_0 := (cell_far (p := ⟨gb255, 3, none⟩) (by first | (rw [add_block]; exact hn256_3) | (show (Addr.add _ _).block ≠ _; rw [add_block]; exact hn256_3) | exact hn256_3) (.int .i64 (rd t244 4))).trans hx256_0
                                replace hx256_0 := (cell_far (p := ⟨gb255, 4, none⟩) (by first | (rw [add_block]; exact hn256_4) | (show (Addr.add _ _).block ≠ _; rw [add_block]; exact hn256_4) | exact hn256_4) (.int .i64 (rd t244 7))).trans hx256_0
                                replace hx256_0 := (cell_far (p := ⟨gb255, 5, none⟩) (by first | (rw [add_block]; exact hn256_5) | (show (Addr.add _ _).block ≠ _; rw [add_block]; exact hn256_5) | exact hn256_5) (.int .i64 (rd t244 8))).trans hx256_0
                                replace hx256_0 := (cell_far (p := ⟨gb255, 6, none⟩) (by first | (rw [add_block]; exact hn256_6) | (show (Addr.add _ _).block ≠ _; rw [add_block]; exact hn256_6) | exact hn256_6) (.int .i64 (rd t244 9))).trans hx256_0
                                clear hn256_0
                                clear hn256_1
                                clear hn256_2
                                clear hn256_3
                                clear hn256_4
                                clear hn256_5
                                clear hn256_6
                                replace p256 := eq_true p256
                                replace q256 := eq_true q256
                                have p257 : 0 ≤ (5 : Int) := (by omega)
                                have q257 : 5 < (t244.length : Int) := of_decide_eq_true (by first | (with_reducible assumption) | assumption)
                                obtain ⟨ad257, e257, hx257_0⟩ := Kd.at_int (Kd.R_reads' HO247.out).2.2 5 p257 q257
                                obtain rfl : ad248 = ad257 := (by injection e257)
                                (try simp only [show (5 : Int).toNat = 5 from rfl, Nat.reduceMul, Nat.reduceEqDiff, Go.Addr.add, ↓reduceIte] at hx257_0)
                                have qi257 : (5 < t244.length) = True := eq_true (by omega)
                                (try rw [show ((5 : Int)).toNat = 5 from rfl] at hx257_0)
                                have hn257_0 : ad248.block ≠ gb255 := Kd.own_blk (Kd.R_ne HO247.out BK255.out (by decide))
                                have hn257_1 : ad248.block ≠ gb255 := Kd.own_blk (Kd.R_ne HO247.out BK255.out (by decide))
                                have hn257_2 : ad248.block ≠ gb255 := Kd.own_blk (Kd.R_ne HO247.out BK255.out (by decide))
                                have hn257_3 : ad248.block ≠ gb255 := Kd.own_blk (Kd.R_ne HO247.out BK255.out (by decide))
                                have hn257_4 : ad248.block ≠ gb255 := Kd.own_blk (Kd.R_ne HO247.out BK255.out (by decide))
                                have hn257_5 : ad248.block ≠ gb255 := Kd.own_blk (Kd.R_ne HO247.out BK255.out (by decide))
                                have hn257_6 : ad248.block ≠ gb255 := Kd.own_blk (Kd.R_ne HO247.out BK255.out (by decide))
                                replace hx257_0 := (cell_far (p := ⟨gb255, 0, none⟩) (by first | (rw [add_block]; exact hn257_0) | (show (Addr.add _ _).block ≠ _; rw [add_block]; exact hn257_0) | exact hn257_0) (.int .i64 (rd t244 1))).trans hx257_0
                                replace hx257_0 := (cell_far (p := ⟨gb255, 1, none⟩) (by first | (rw [add_block]; exact hn257_1) | (show (Addr.add _ _).block ≠ _; rw [add_block]; exact hn257_1) | exact hn257_1) (.int .i64 (rd t244 2))).trans hx257_0
                                replace hx257_0 := (cell_far (p := ⟨gb255, 2, none⟩) (by first | (rw [add_block]; exact hn257_2) | (show (Addr.add _ _).block ≠ _; rw [add_block]; exact hn257_2) | exact hn257_2) (.int .i64 (rd t244 3))).trans hx257_0
                                replace hx257_0 := (cell_far (p := ⟨gb255, 3, none⟩) (by first | (rw [add_block]; exact hn257_3) | (show (Addr.add _ _).block ≠ _; rw [add_block]; exact hn257_3) | exact hn257_3) (.int .i64 (rd t244 4))).trans hx257_0
                                replace hx257_0 := (cell_far (p := ⟨gb255, 4, none⟩) (by first | (rw [add_block]; exact hn257_4) | (show (Addr.add _ _).block ≠ _; rw [add_block]; exact hn257_4) | exact hn257_4) (.int .i64 (rd t244 7))).trans hx257_0
                                replace hx257_0 := (cell_far (p := ⟨gb255, 5, none⟩) (by first | (rw [add_block]; exact hn257_5) | (show (Addr.add _ _).block ≠ _; rw [add_block]; exact hn257_5) | exact hn257_5) (.int .i64 (rd t244 8))).trans hx257_0
                                replace hx257_0 := (cell_far (p := ⟨gb255, 6, none⟩) (by first | (rw [add_block]; exact hn257_6) | (show (Addr.add _ _).block ≠ _; rw [add_block]; exact hn257_6) | exact hn257_6) (.int .i64 (rd t244 9))).trans hx257_0
                                clear hn257_0
                                clear hn257_1
                                clear hn257_2
                                clear hn257_3
                                clear hn257_4
                                clear hn257_5
                                clear hn257_6
                                replace p257 := eq_true p257
                                replace q257 := eq_true q257
                                go_wp2
                                go_meet
                                case rel => exact ⟨_, (true), (by first | rfl | (simp; done) | (simp [*]; done)), H', ⟨by first | omega | exact Nat.le_refl _⟩, ⟨by (with_reducible repeat (first | refine blk_drewN ?_ _ | refine blk_drew ?_ | refine blk_alloc ?_ _)); refine blk_far ?_ NB243_255.out _; (with_reducible repeat (first | refine blk_drewN ?_ _ | refine blk_drew ?_ | refine blk_alloc ?_ _)); refine blk_far ?_ NB243_255.out _; (with_reducible repeat (first | refine blk_drewN ?_ _ | refine blk_drew ?_ | refine blk_alloc ?_ _)); refine blk_far ?_ NB243_255.out _; (with_reducible repeat (first | refine blk_drewN ?_ _ | refine blk_drew ?_ | refine blk_alloc ?_ _)); refine blk_far ?_ NB243_255.out _; (with_reducible repeat (first | refine blk_drewN ?_ _ | refine blk_drew ?_ | refine blk_alloc ?_ _)); refine blk_far ?_ NB243_255.out _; (with_reducible repeat (first | refine blk_drewN ?_ _ | refine blk_drew ?_ | refine blk_alloc ?_ _)); refine blk_far ?_ NB243_255.out _; (with_reducible repeat (first | refine blk_drewN ?_ _ | refine blk_drew ?_ | refine blk_alloc ?_ _)); refine blk_far ?_ NB243_255.out _; (with_reducible repeat (first | refine blk_drewN ?_ _ | refine blk_drew ?_ | refine blk_alloc ?_ _)); exact BK243.out⟩, ⟨by (with_reducible repeat (first | refine blk_drewN ?_ _ | refine blk_drew ?_ | refine blk_alloc ?_ _)); refine blk_put (cs := #[.int .i64 (rd t244 1), .int .i64 (rd t244 2), .int .i64 (rd t244 3), .int .i64 (rd t244 4), .int .i64 (rd t244 7), .int .i64 (rd t244 8), .int .i64 0]) ?_ 6 _ rfl; (with_reducible repeat (first | refine blk_drewN ?_ _ | refine blk_drew ?_ | refine blk_alloc ?_ _)); refine blk_put (cs := #[.int .i64 (rd t244 1), .int .i64 (rd t244 2), .int .i64 (rd t244 3), .int .i64 (rd t244 4), .int .i64 (rd t244 7), .int .i64 0, .int .i64 0]) ?_ 5 _ rfl; (with_reducible repeat (first | refine blk_drewN ?_ _ | refine blk_drew ?_ | refine blk_alloc ?_ _)); refine blk_put (cs := #[.int .i64 (rd t244 1), .int .i64 (rd t244 2), .int .i64 (rd t244 3), .int .i64 (rd t244 4), .int .i64 0, .int .i64 0, .int .i64 0]) ?_ 4 _ rfl; (with_reducible repeat (first | refine blk_drewN ?_ _ | refine blk_drew ?_ | refine blk_alloc ?_ _)); refine blk_put (cs := #[.int .i64 (rd t244 1), .int .i64 (rd t244 2), .int .i64 (rd t244 3), .int .i64 0, .int .i64 0, .int .i64 0, .int .i64 0]) ?_ 3 _ rfl; (with_reducible repeat (first | refine blk_drewN ?_ _ | refine blk_drew ?_ | refine blk_alloc ?_ _)); refine blk_put (cs := #[.int .i64 (rd t244 1), .int .i64 (rd t244 2), .int .i64 0, .int .i64 0, .int .i64 0, .int .i64 0, .int .i64 0]) ?_ 2 _ rfl; (with_reducible repeat (first | refine blk_drewN ?_ _ | refine blk_drew ?_ | refine blk_alloc ?_ _)); refine blk_put (cs := #[.int .i64 (rd t244 1), .int .i64 0, .int .i64 0, .int .i64 0, .int .i64 0, .int .i64 0, .int .i64 0]) ?_ 1 _ rfl; (with_reducible repeat (first | refine blk_drewN ?_ _ | refine blk_drew ?_ | refine blk_alloc ?_ _)); refine blk_put (cs := #[.int .i64 0, .int .i64 0, .int .i64 0, .int .i64 0, .int .i64 0, .int .i64 0, .int .i64 0]) ?_ 0 _ rfl; (with_reducible repeat (first | refine blk_drewN ?_ _ | refine blk_drew ?_ | refine blk_alloc ?_ _)); exact BK255.out⟩, ⟨by repeat (first | (with_reducible first | exact HB.out | apply below_alloc | apply pw_below_drewN | apply below_drew1 | refine below_set ?_ GE243.out | refine below_set ?_ GE255.out) | exact HB.out)⟩⟩
                              · rw [if_neg c31] at H
                                have c31b0 : decide ((rd t244 5) < 17) = false := decide_eq_false c31
                                clear c31
                                by_cases c32 : 6 < (t244.length : Int)
                                · rw [if_pos c32] at H
                                  have c32b0 : decide (6 < (t244.length : Int)) = true := decide_eq_true c32
                                  have c32b1 : decide (6 < t244.length) = true := decide_eq_true (by omega)
                                  clear c32
                                  have H' := Aside0.mk H
                                  clear H
                                  have p256 : 0 ≤ (0 : Int) := (by omega)
                                  have q256 : 0 < (t244.length : Int) := of_decide_eq_true (by first | (with_reducible assumption) | assumption)
                                  obtain ⟨ad256, e256, hx256_0⟩ := Kd.at_int (Kd.R_reads' HO247.out).2.2 0 p256 q256
                                  obtain rfl : ad248 = ad256 := (by injection e256)
                                  have qi256 : (0 < t244.length) = True := eq_true (by omega)
                                  (try rw [show ((0 : Int)).toNat = 0 from rfl] at hx256_0)
                                  (try rw [Addr.add_zero'] at hx256_0)
                                  have hn256_0 : ad248.block ≠ gb255 := Kd.own_blk (Kd.R_ne HO247.out BK255.out (by decide))
                                  have hn256_1 : ad248.block ≠ gb255 := Kd.own_blk (Kd.R_ne HO247.out BK255.out (by decide))
                                  have hn256_2 : ad248.block ≠ gb255 := Kd.own_blk (Kd.R_ne HO247.out BK255.out (by decide))
                                  have hn256_3 : ad248.block ≠ gb255 := Kd.own_blk (Kd.R_ne HO247.out BK255.out (by decide))
                                  have hn256_4 : ad248.block ≠ gb255 := Kd.own_blk (Kd.R_ne HO247.out BK255.out (by decide))
                                  have hn256_5 : ad248.block ≠ gb255 := Kd.own_blk (Kd.R_ne HO247.out BK255.out (by decide))
                                  have hn256_6 : ad248.block ≠ gb255 := Kd.own_blk (Kd.R_ne HO247.out BK255.out (by decide))
                                  replace hx256_0 := (cell_far (p := ⟨gb255, 0, none⟩) (by first | (rw [add_block]; exact hn256_0) | (show (Addr.add _ _).block ≠ _; rw [add_block]; exact hn256_0) | exact hn256_0) (.int .i64 (rd t244 1))).trans hx256_0
                                  replace hx256_0 := (cell_far (p := ⟨gb255, 1, none⟩) (by first | (rw [add_block]; exact hn256_1) | (show (Addr.add _ _).block ≠ _; rw [add_block]; exact hn256_1) | exact hn256_1) (.int .i64 (rd t244 2))).trans hx256_0
                                  replace hx256_0 := (cell_far (p := ⟨gb255, 2, none⟩) (by first | (rw [add_block]; exact hn256_2) | (show (Addr.add _ _).block ≠ _; rw [add_block]; exact hn256_2) | exact hn256_2) (.int .i64 (rd t244 3))).trans hx256_0
                                  replace hx256_0 := (cell_far (p := ⟨gb255, 3, none⟩) (by first | (rw [add_block]; exact hn256_3) | (show (Addr.add _ _).block ≠ _; rw [add_block]; exact hn256_3) | exact hn256_3) (.int .i64 (rd t244 4))).trans hx256_0
                                  replace hx256_0 := (cell_far (p := ⟨gb255, 4, none⟩) (by first | (rw [add_block]; exact hn256_4) | (show (Addr.add _ _).block ≠ _; rw [add_block]; exact hn256_4) | exact hn256_4) (.int .i64 (rd t244 7))).trans hx256_0
                                  replace hx256_0 := (cell_far (p := ⟨gb255, 5, none⟩) (by first | (rw [add_block]; exact hn256_5) | (show (Addr.add _ _).block ≠ _; rw [add_block]; exact hn256_5) | exact hn256_5) (.int .i64 (rd t244 8))).trans hx256_0
                                  replace hx256_0 := (cell_far (p := ⟨gb255, 6, none⟩) (by first | (rw [add_block]; exact hn256_6) | (show (Addr.add _ _).block ≠ _; rw [add_block]; exact hn256_6) | exact hn256_6) (.int .i64 (rd t244 9))).trans hx256_0
                                  clear hn256_0
                                  clear hn256_1
                                  clear hn256_2
                                  clear hn256_3
                                  clear hn256_4
                                  clear hn256_5
                                  clear hn256_6
                                  replace p256 := eq_true p256
                                  replace q256 := eq_true q256
                                  have p257 : 0 ≤ (5 : Int) := (by omega)
                                  have q257 : 5 < (t244.length : Int) := of_decide_eq_true (by first | (with_reducible assumption) | assumption)
                                  obtain ⟨ad257, e257, hx257_0⟩ := Kd.at_int (Kd.R_reads' HO247.out).2.2 5 p257 q257
                                  obtain rfl : ad248 = ad257 := (by injection e257)
                                  (try simp only [show (5 : Int).toNat = 5 from rfl, Nat.reduceMul, Nat.reduceEqDiff, Go.Addr.add, ↓reduceIte] at hx257_0)
                                  have qi257 : (5 < t244.length) = True := eq_true (by omega)
                                  (try rw [show ((5 : Int)).toNat = 5 from rfl] at hx257_0)
                                  have hn257_0 : ad248.block ≠ gb255 := Kd.own_blk (Kd.R_ne HO247.out BK255.out (by decide))
                                  have hn257_1 : ad248.block ≠ gb255 := Kd.own_blk (Kd.R_ne HO247.out BK255.out (by decide))
                                  have hn257_2 : ad248.block ≠ gb255 := Kd.own_blk (Kd.R_ne HO247.out BK255.out (by decide))
                                  have hn257_3 : ad248.block ≠ gb255 := Kd.own_blk (Kd.R_ne HO247.out BK255.out (by decide))
                                  have hn257_4 : ad248.block ≠ gb255 := Kd.own_blk (Kd.R_ne HO247.out BK255.out (by decide))
                                  have hn257_5 : ad248.block ≠ gb255 := Kd.own_blk (Kd.R_ne HO247.out BK255.out (by decide))
                                  have hn257_6 : ad248.block ≠ gb255 := Kd.own_blk (Kd.R_ne HO247.out BK255.out (by decide))
                                  replace hx257_0 := (cell_far (p := ⟨gb255, 0, none⟩) (by first | (rw [add_block]; exact hn257_0) | (show (Addr.add _ _).block ≠ _; rw [add_block]; exact hn257_0) | exact hn257_0) (.int .i64 (rd t244 1))).trans hx257_0
                                  replace hx257_0 := (cell_far (p := ⟨gb255, 1, none⟩) (by first | (rw [add_block]; exact hn257_1) | (show (Addr.add _ _).block ≠ _; rw [add_block]; exact hn257_1) | exact hn257_1) (.int .i64 (rd t244 2))).trans hx257_0
                                  replace hx257_0 := (cell_far (p := ⟨gb255, 2, none⟩) (by first | (rw [add_block]; exact hn257_2) | (show (Addr.add _ _).block ≠ _; rw [add_block]; exact hn257_2) | exact hn257_2) (.int .i64 (rd t244 3))).trans hx257_0
                                  replace hx257_0 := (cell_far (p := ⟨gb255, 3, none⟩) (by first | (rw [add_block]; exact hn257_3) | (show (Addr.add _ _).block ≠ _; rw [add_block]; exact hn257_3) | exact hn257_3) (.int .i64 (rd t244 4))).trans hx257_0
                                  replace hx257_0 := (cell_far (p := ⟨gb255, 4, none⟩) (by first | (rw [add_block]; exact hn257_4) | (show (Addr.add _ _).block ≠ _; rw [add_block]; exact hn257_4) | exact hn257_4) (.int .i64 (rd t244 7))).trans hx257_0
                                  replace hx257_0 := (cell_far (p := ⟨gb255, 5, none⟩) (by first | (rw [add_block]; exact hn257_5) | (show (Addr.add _ _).block ≠ _; rw [add_block]; exact hn257_5) | exact hn257_5) (.int .i64 (rd t244 8))).trans hx257_0
                                  replace hx257_0 := (cell_far (p := ⟨gb255, 6, none⟩) (by first | (rw [add_block]; exact hn257_6) | (show (Addr.add _ _).block ≠ _; rw [add_block]; exact hn257_6) | exact hn257_6) (.int .i64 (rd t244 9))).trans hx257_0
                                  clear hn257_0
                                  clear hn257_1
                                  clear hn257_2
                                  clear hn257_3
                                  clear hn257_4
                                  clear hn257_5
                                  clear hn257_6
                                  replace p257 := eq_true p257
                                  replace q257 := eq_true q257
                                  have p258 : 0 ≤ (6 : Int) := (by omega)
                                  have q258 : 6 < (t244.length : Int) := of_decide_eq_true (by first | (with_reducible assumption) | assumption)
                                  obtain ⟨ad258, e258, hx258_0⟩ := Kd.at_int (Kd.R_reads' HO247.out).2.2 6 p258 q258
                                  obtain rfl : ad248 = ad258 := (by injection e258)
                                  (try simp only [show (6 : Int).toNat = 6 from rfl, Nat.reduceMul, Nat.reduceEqDiff, Go.Addr.add, ↓reduceIte] at hx258_0)
                                  have qi258 : (6 < t244.length) = True := eq_true (by omega)
                                  (try rw [show ((6 : Int)).toNat = 6 from rfl] at hx258_0)
                                  have hn258_0 : ad248.block ≠ gb255 := Kd.own_blk (Kd.R_ne HO247.out BK255.out (by decide))
                                  have hn258_1 : ad248.block ≠ gb255 := Kd.own_blk (Kd.R_ne HO247.out BK255.out (by decide))
                                  have hn258_2 : ad248.block ≠ gb255 := Kd.own_blk (Kd.R_ne HO247.out BK255.out (by decide))
                                  have hn258_3 : ad248.block ≠ gb255 := Kd.own_blk (Kd.R_ne HO247.out BK255.out (by decide))
                                  have hn258_4 : ad248.block ≠ gb255 := Kd.own_blk (Kd.R_ne HO247.out BK255.out (by decide))
                                  have hn258_5 : ad248.block ≠ gb255 := Kd.own_blk (Kd.R_ne HO247.out BK255.out (by decide))
                                  have hn258_6 : ad248.block ≠ gb255 := Kd.own_blk (Kd.R_ne HO247.out BK255.out (by decide))
                                  replace hx258_0 := (cell_far (p := ⟨gb255, 0, none⟩) (by first | (rw [add_block]; exact hn258_0) | (show (Addr.add _ _).block ≠ _; rw [add_block]; exact hn258_0) | exact hn258_0) (.int .i64 (rd t244 1))).trans hx258_0
                                  replace hx258_0 := (cell_far (p := ⟨gb255, 1, none⟩) (by first | (rw [add_block]; exact hn258_1) | (show (Addr.add _ _).block ≠ _; rw [add_block]; exact hn258_1) | exact hn258_1) (.int .i64 (rd t244 2))).trans hx258_0
                                  replace hx258_0 := (cell_far (p := ⟨gb255, 2, none⟩) (by first | (rw [add_block]; exact hn258_2) | (show (Addr.add _ _).block ≠ _; rw [add_block]; exact hn258_2) | exact hn258_2) (.int .i64 (rd t244 3))).trans hx258_0
                                  replace hx258_0 := (cell_far (p := ⟨gb255, 3, none⟩) (by first | (rw [add_block]; exact hn258_3) | (show (Addr.add _ _).block ≠ _; rw [add_block]; exact hn258_3) | exact hn258_3) (.int .i64 (rd t244 4))).trans hx258_0
                                  replace hx258_0 := (cell_far (p := ⟨gb255, 4, none⟩) (by first | (rw [add_block]; exact hn258_4) | (show (Addr.add _ _).block ≠ _; rw [add_block]; exact hn258_4) | exact hn258_4) (.int .i64 (rd t244 7))).trans hx258_0
                                  replace hx258_0 := (cell_far (p := ⟨gb255, 5, none⟩) (by first | (rw [add_block]; exact hn258_5) | (show (Addr.add _ _).block ≠ _; rw [add_block]; exact hn258_5) | exact hn258_5) (.int .i64 (rd t244 8))).trans hx258_0
                                  replace hx258_0 := (cell_far (p := ⟨gb255, 6, none⟩) (by first | (rw [add_block]; exact hn258_6) | (show (Addr.add _ _).block ≠ _; rw [add_block]; exact hn258_6) | exact hn258_6) (.int .i64 (rd t244 9))).trans hx258_0
                                  clear hn258_0
                                  clear hn258_1
                                  clear hn258_2
                                  clear hn258_3
                                  clear hn258_4
                                  clear hn258_5
                                  clear hn258_6
                                  replace p258 := eq_true p258
                                  replace q258 := eq_true q258
                                  go_wp2
                                  go_meet
                                  case rel => exact ⟨_, (decide ((rd t244 6) > 17)), (by first | rfl | (simp; done) | (simp [*]; done)), H', ⟨by first | omega | exact Nat.le_refl _⟩, ⟨by (with_reducible repeat (first | refine blk_drewN ?_ _ | refine blk_drew ?_ | refine blk_alloc ?_ _)); refine blk_far ?_ NB243_255.out _; (with_reducible repeat (first | refine blk_drewN ?_ _ | refine blk_drew ?_ | refine blk_alloc ?_ _)); refine blk_far ?_ NB243_255.out _; (with_reducible repeat (first | refine blk_drewN ?_ _ | refine blk_drew ?_ | refine blk_alloc ?_ _)); refine blk_far ?_ NB243_255.out _; (with_reducible repeat (first | refine blk_drewN ?_ _ | refine blk_drew ?_ | refine blk_alloc ?_ _)); refine blk_far ?_ NB243_255.out _; (with_reducible repeat (first | refine blk_drewN ?_ _ | refine blk_drew ?_ | refine blk_alloc ?_ _)); refine blk_far ?_ NB243_255.out _; (with_reducible repeat (first | refine blk_drewN ?_ _ | refine blk_drew ?_ | refine blk_alloc ?_ _)); refine blk_far ?_ NB243_255.out _; (with_reducible repeat (first | refine blk_drewN ?_ _ | refine blk_drew ?_ | refine blk_alloc ?_ _)); refine blk_far ?_ NB243_255.out _; (with_reducible repeat (first | refine blk_drewN ?_ _ | refine blk_drew ?_ | refine blk_alloc ?_ _)); exact BK243.out⟩, ⟨by (with_reducible repeat (first | refine blk_drewN ?_ _ | refine blk_drew ?_ | refine blk_alloc ?_ _)); refine blk_put (cs := #[.int .i64 (rd t244 1), .int .i64 (rd t244 2), .int .i64 (rd t244 3), .int .i64 (rd t244 4), .int .i64 (rd t244 7), .int .i64 (rd t244 8), .int .i64 0]) ?_ 6 _ rfl; (with_reducible repeat (first | refine blk_drewN ?_ _ | refine blk_drew ?_ | refine blk_alloc ?_ _)); refine blk_put (cs := #[.int .i64 (rd t244 1), .int .i64 (rd t244 2), .int .i64 (rd t244 3), .int .i64 (rd t244 4), .int .i64 (rd t244 7), .int .i64 0, .int .i64 0]) ?_ 5 _ rfl; (with_reducible repeat (first | refine blk_drewN ?_ _ | refine blk_drew ?_ | refine blk_alloc ?_ _)); refine blk_put (cs := #[.int .i64 (rd t244 1), .int .i64 (rd t244 2), .int .i64 (rd t244 3), .int .i64 (rd t244 4), .int .i64 0, .int .i64 0, .int .i64 0]) ?_ 4 _ rfl; (with_reducible repeat (first | refine blk_drewN ?_ _ | refine blk_drew ?_ | refine blk_alloc ?_ _)); refine blk_put (cs := #[.int .i64 (rd t244 1), .int .i64 (rd t244 2), .int .i64 (rd t244 3), .int .i64 0, .int .i64 0, .int .i64 0, .int .i64 0]) ?_ 3 _ rfl; (with_reducible repeat (first | refine blk_drewN ?_ _ | refine blk_drew ?_ | refine blk_alloc ?_ _)); refine blk_put (cs := #[.int .i64 (rd t244 1), .int .i64 (rd t244 2), .int .i64 0, .int .i64 0, .int .i64 0, .int .i64 0, .int .i64 0]) ?_ 2 _ rfl; (with_reducible repeat (first | refine blk_drewN ?_ _ | refine blk_drew ?_ | refine blk_alloc ?_ _)); refine blk_put (cs := #[.int .i64 (rd t244 1), .int .i64 0, .int .i64 0, .int .i64 0, .int .i64 0, .int .i64 0, .int .i64 0]) ?_ 1 _ rfl; (with_reducible repeat (first | refine blk_drewN ?_ _ | refine blk_drew ?_ | refine blk_alloc ?_ _)); refine blk_put (cs := #[.int .i64 0, .int .i64 0, .int .i64 0, .int .i64 0, .int .i64 0, .int .i64 0, .int .i64 0]) ?_ 0 _ rfl; (with_reducible repeat (first | refine blk_drewN ?_ _ | refine blk_drew ?_ | refine blk_alloc ?_ _)); exact BK255.out⟩, ⟨by repeat (first | (with_reducible first | exact HB.out | apply below_alloc | apply pw_below_drewN | apply below_drew1 | refine below_set ?_ GE243.out | refine below_set ?_ GE255.out) | exact HB.out)⟩⟩
                                · rw [if_neg c32] at H
                                  exact absurd H (by simp)
                            · rw [if_neg c30] at H
                              exact absurd H (by simp)
                          · rw [if_neg c29] at H
                            have c29b0 : ((rd t244 0) == 3490578157) = false := beq_eq_false_iff_ne.mpr c29
                            have c29b1 : ((rd t244 0) != 3490578157) = true := bne_iff_ne.mpr c29
                            have H' := Aside0.mk H
                            clear H
                            have p256 : 0 ≤ (0 : Int) := (by omega)
                            have q256 : 0 < (t244.length : Int) := of_decide_eq_true (by first | (with_reducible assumption) | assumption)
                            obtain ⟨ad256, e256, hx256_0⟩ := Kd.at_int (Kd.R_reads' HO247.out).2.2 0 p256 q256
                            obtain rfl : ad248 = ad256 := (by injection e256)
                            have qi256 : (0 < t244.length) = True := eq_true (by omega)
                            (try rw [show ((0 : Int)).toNat = 0 from rfl] at hx256_0)
                            (try rw [Addr.add_zero'] at hx256_0)
                            have hn256_0 : ad248.block ≠ gb255 := Kd.own_blk (Kd.R_ne HO247.out BK255.out (by decide))
                            have hn256_1 : ad248.block ≠ gb255 := Kd.own_blk (Kd.R_ne HO247.out BK255.out (by decide))
                            have hn256_2 : ad248.block ≠ gb255 := Kd.own_blk (Kd.R_ne HO247.out BK255.out (by decide))
                            have hn256_3 : ad248.block ≠ gb255 := Kd.own_blk (Kd.R_ne HO247.out BK255.out (by decide))
                            have hn256_4 : ad248.block ≠ gb255 := Kd.own_blk (Kd.R_ne HO247.out BK255.out (by decide))
                            have hn256_5 : ad248.block ≠ gb255 := Kd.own_blk (Kd.R_ne HO247.out BK255.out (by decide))
                            have hn256_6 : ad248.block ≠ gb255 := Kd.own_blk (Kd.R_ne HO247.out BK255.out (by decide))
                            replace hx256_0 := (cell_far (p := ⟨gb255, 0, none⟩) (by first | (rw [add_block]; exact hn256_0) | (show (Addr.add _ _).block ≠ _; rw [add_block]; exact hn256_0) | exact hn256_0) (.int .i64 (rd t244 1))).trans hx256_0
                            replace hx256_0 := (cell_far (p := ⟨gb255, 1, none⟩) (by first | (rw [add_block]; exact hn256_1) | (show (Addr.add _ _).block ≠ _; rw [add_block]; exact hn256_1) | exact hn256_1) (.int .i64 (rd t244 2))).trans hx256_0
                            replace hx256_0 := (cell_far (p := ⟨gb255, 2, none⟩) (by first | (rw [add_block]; exact hn256_2) | (show (Addr.add _ _).block ≠ _; rw [add_block]; exact hn256_2) | exact hn256_2) (.int .i64 (rd t244 3))).trans hx256_0
                            replace hx256_0 := (cell_far (p := ⟨gb255, 3, none⟩) (by first | (rw [add_block]; exact hn256_3) | (show (Addr.add _ _).block ≠ _; rw [add_block]; exact hn256_3) | exact hn256_3) (.int .i64 (rd t244 4))).trans hx256_0
                            replace hx256_0 := (cell_far (p := ⟨gb255, 4, none⟩) (by first | (rw [add_block]; exact hn256_4) | (show (Addr.add _ _).block ≠ _; rw [add_block]; exact hn256_4) | exact hn256_4) (.int .i64 (rd t244 7))).trans hx256_0
                            replace hx256_0 := (cell_far (p := ⟨gb255, 5, none⟩) (by first | (rw [add_block]; exact hn256_5) | (show (Addr.add _ _).block ≠ _; rw [add_block]; exact hn256_5) | exact hn256_5) (.int .i64 (rd t244 8))).trans hx256_0
                            replace hx256_0 := (cell_far (p := ⟨gb255, 6, none⟩) (by first | (rw [add_block]; exact hn256_6) | (show (Addr.add _ _).block ≠ _; rw [add_block]; exact hn256_6) | exact hn256_6) (.int .i64 (rd t244 9))).trans hx256_0
                            clear hn256_0
                            clear hn256_1
                            clear hn256_2
                            clear hn256_3
                            clear hn256_4
                            clear hn256_5
                            clear hn256_6
                            replace p256 := eq_true p256
                            replace q256 := eq_true q256
                            go_wp2
                            go_meet
                            case rel => exact ⟨_, (true), (by first | rfl | (simp; done) | (simp [*]; done)), H', ⟨by first | omega | exact Nat.le_refl _⟩, ⟨by (with_reducible repeat (first | refine blk_drewN ?_ _ | refine blk_drew ?_ | refine blk_alloc ?_ _)); refine blk_far ?_ NB243_255.out _; (with_reducible repeat (first | refine blk_drewN ?_ _ | refine blk_drew ?_ | refine blk_alloc ?_ _)); refine blk_far ?_ NB243_255.out _; (with_reducible repeat (first | refine blk_drewN ?_ _ | refine blk_drew ?_ | refine blk_alloc ?_ _)); refine blk_far ?_ NB243_255.out _; (with_reducible repeat (first | refine blk_drewN ?_ _ | refine blk_drew ?_ | refine blk_alloc ?_ _)); refine blk_far ?_ NB243_255.out _; (with_reducible repeat (first | refine blk_drewN ?_ _ | refine blk_drew ?_ | refine blk_alloc ?_ _)); refine blk_far ?_ NB243_255.out _; (with_reducible repeat (first | refine blk_drewN ?_ _ | refine blk_drew ?_ | refine blk_alloc ?_ _)); refine blk_far ?_ NB243_255.out _; (with_reducible repeat (first | refine blk_drewN ?_ _ | refine blk_drew ?_ | refine blk_alloc ?_ _)); refine blk_far ?_ NB243_255.out _; (with_reducible repeat (first | refine blk_drewN ?_ _ | refine blk_drew ?_ | refine blk_alloc ?_ _)); exact BK243.out⟩, ⟨by (with_reducible repeat (first | refine blk_drewN ?_ _ | refine blk_drew ?_ | refine blk_alloc ?_ _)); refine blk_put (cs := #[.int .i64 (rd t244 1), .int .i64 (rd t244 2), .int .i64 (rd t244 3), .int .i64 (rd t244 4), .int .i64 (rd t244 7), .int .i64 (rd t244 8), .int .i64 0]) ?_ 6 _ rfl; (with_reducible repeat (first | refine blk_drewN ?_ _ | refine blk_drew ?_ | refine blk_alloc ?_ _)); refine blk_put (cs := #[.int .i64 (rd t244 1), .int .i64 (rd t244 2), .int .i64 (rd t244 3), .int .i64 (rd t244 4), .int .i64 (rd t244 7), .int .i64 0, .int .i64 0]) ?_ 5 _ rfl; (with_reducible repeat (first | refine blk_drewN ?_ _ | refine blk_drew ?_ | refine blk_alloc ?_ _)); refine blk_put (cs := #[.int .i64 (rd t244 1), .int .i64 (rd t244 2), .int .i64 (rd t244 3), .int .i64 (rd t244 4), .int .i64 0, .int .i64 0, .int .i64 0]) ?_ 4 _ rfl; (with_reducible repeat (first | refine blk_drewN ?_ _ | refine blk_drew ?_ | refine blk_alloc ?_ _)); refine blk_put (cs := #[.int .i64 (rd t244 1), .int .i64 (rd t244 2), .int .i64 (rd t244 3), .int .i64 0, .int .i64 0, .int .i64 0, .int .i64 0]) ?_ 3 _ rfl; (with_reducible repeat (first | refine blk_drewN ?_ _ | refine blk_drew ?_ | refine blk_alloc ?_ _)); refine blk_put (cs := #[.int .i64 (rd t244 1), .int .i64 (rd t244 2), .int .i64 0, .int .i64 0, .int .i64 0, .int .i64 0, .int .i64 0]) ?_ 2 _ rfl; (with_reducible repeat (first | refine blk_drewN ?_ _ | refine blk_drew ?_ | refine blk_alloc ?_ _)); refine blk_put (cs := #[.int .i64 (rd t244 1), .int .i64 0, .int .i64 0, .int .i64 0, .int .i64 0, .int .i64 0, .int .i64 0]) ?_ 1 _ rfl; (with_reducible repeat (first | refine blk_drewN ?_ _ | refine blk_drew ?_ | refine blk_alloc ?_ _)); refine blk_put (cs := #[.int .i64 0, .int .i64 0, .int .i64 0, .int .i64 0, .int .i64 0, .int .i64 0, .int .i64 0]) ?_ 0 _ rfl; (with_reducible repeat (first | refine blk_drewN ?_ _ | refine blk_drew ?_ | refine blk_alloc ?_ _)); exact BK255.out⟩, ⟨by repeat (first | (with_reducible first | exact HB.out | apply below_alloc | apply pw_below_drewN | apply below_drew1 | refine below_set ?_ GE243.out | refine below_set ?_ GE255.out) | exact HB.out)⟩⟩
                        · rw [if_neg c28] at H
                          exact absurd H (by simp)
                      case rest =>
                        clear HC15
                        try clear c1
                        try clear c2
                        try clear p2
                        try clear q2
                        try clear hx2
                        try clear qi2
                        try clear c3
                        try clear c6
                        try clear c9
                        try clear c9b0
                        try clear c9b1
                        try clear c10
                        try clear c10b0
                        try clear c10b1
                        try clear c11
                        try clear c11b0
                        try clear c11b1
                        try clear c12
                        try clear c12b0
                        try clear c12b1
                        try clear c13
                        try clear c13b0
                        try clear c13b1
                        try clear c14
                        try clear c14b0
                        try clear c14b1
                        try clear p24
                        try clear q24
                        try clear hx24
                        try clear qi24
                        try clear p25
                        try clear q25
                        try clear hx25
                        try clear qi25
                        try clear c28
                        try clear c28b0
                        try clear c28b1
                        try clear c29
                        try clear c29b0
                        try clear c29b1
                        try clear c30
                        try clear c30b0
                        try clear c30b1
                        try clear c31
                        try clear c31b0
                        try clear c32
                        try clear c32b0
                        try clear c32b1
                        try clear hx248_0
                        try clear hx249_0
                        try clear hx250_0
                        try clear hx251_0
                        try clear hx252_0
                        try clear hx253_0
                        try clear hx254_0
                        try clear hx256_0
                        try clear hx257_0
                        try clear hx258_0
                        try clear p248
                        try clear p249
                        try clear p250
                        try clear p251
                        try clear p252
                        try clear p253
                        try clear p254
                        try clear p256
                        try clear p257
                        try clear p258
                        try clear q248
                        try clear q249
                        try clear q250
                        try clear q251
                        try clear q252
                        try clear q253
                        try clear q254
                        try clear q256
                        try clear q257
                        try clear q258
                        obtain ⟨kq, x39_14, rfl, HA, HJ14, BK243, BK255, HB⟩ := hcut
                        cases kq with
                        | zero => exact absurd HA.out (by simp [postilionref11_Read.j0])
                        | succ kj14 =>
                          have H := HA.out
                          clear HA
                          simp only [postilionref11_Read.j0] at H
                          by_cases c33 : x39_14 = true
                          · subst c33
                            have H1 : (some (0, 0, 0, 0, 0, 0, 0, 6)) = some (r1, r2, r3, r4, r5, r6, r7, r8) := by rw [if_pos rfl] at H; exact H
                            clear H
                            have H := H1
                            clear H1
                            simp only [Option.some.injEq, Prod.mk.injEq] at H
                            obtain ⟨rfl, rfl, rfl, rfl, rfl, rfl, rfl, rfl⟩ := H
                            have hnb34 := NB243_255.out
                            have hnc34 := NB255_243.out
                            have hcz35_0 : wc.cell? ⟨gb243, 0, none⟩ = some (.int .i64 0) := (blk_cell BK243.out 0).trans rfl
                            have hcz35_1 : wc.cell? ⟨gb243, 1, none⟩ = some (.int .i64 0) := (blk_cell BK243.out 1).trans rfl
                            have hcz35_2 : wc.cell? ⟨gb243, 2, none⟩ = some (.int .i64 0) := (blk_cell BK243.out 2).trans rfl
                            have hcz35_3 : wc.cell? ⟨gb243, 3, none⟩ = some (.int .i64 0) := (blk_cell BK243.out 3).trans rfl
                            have hcz35_4 : wc.cell? ⟨gb243, 4, none⟩ = some (.int .i64 0) := (blk_cell BK243.out 4).trans rfl
                            have hcz35_5 : wc.cell? ⟨gb243, 5, none⟩ = some (.int .i64 0) := (blk_cell BK243.out 5).trans rfl
                            have hcz35_6 : wc.cell? ⟨gb243, 6, none⟩ = some (.int .i64 0) := (blk_cell BK243.out 6).trans rfl
                            have hfz35_0 := blk_frozen BK243.out 0
                            have hfz35_1 := blk_frozen BK243.out 1
                            have hfz35_2 := blk_frozen BK243.out 2
                            have hfz35_3 := blk_frozen BK243.out 3
                            have hfz35_4 := blk_frozen BK243.out 4
                            have hfz35_5 := blk_frozen BK243.out 5
                            have hfz35_6 := blk_frozen BK243.out 6
                            go_wp2
                            refine bodyPost_ret (results_ct rfl _ _ gb243 34 #[.int .i64 0, .int .i64 0, .int .i64 0, .int .i64 0, .int .i64 0, .int .i64 0, .int .i64 0] (0, 0) _ rfl (by (with_reducible repeat (first | refine blk_drewN ?_ _ | refine blk_drew ?_ | refine blk_alloc ?_ _)); refine blk_put (cs := #[.int .i64 0, .int .i64 0, .int .i64 0, .int .i64 0, .int .i64 0, .int .i64 0, .int .i64 0]) ?_ 6 _ rfl; (with_reducible repeat (first | refine blk_drewN ?_ _ | refine blk_drew ?_ | refine blk_alloc ?_ _)); refine blk_put (cs := #[.int .i64 0, .int .i64 0, .int .i64 0, .int .i64 0, .int .i64 0, .int .i64 0, .int .i64 0]) ?_ 5 _ rfl; (with_reducible repeat (first | refine blk_drewN ?_ _ | refine blk_drew ?_ | refine blk_alloc ?_ _)); refine blk_put (cs := #[.int .i64 0, .int .i64 0, .int .i64 0, .int .i64 0, .int .i64 0, .int .i64 0, .int .i64 0]) ?_ 4 _ rfl; (with_reducible repeat (first | refine blk_drewN ?_ _ | refine blk_drew ?_ | refine blk_alloc ?_ _)); refine blk_put (cs := #[.int .i64 0, .int .i64 0, .int .i64 0, .int .i64 0, .int .i64 0, .int .i64 0, .int .i64 0]) ?_ 3 _ rfl; (with_reducible repeat (first | refine blk_drewN ?_ _ | refine blk_drew ?_ | refine blk_alloc ?_ _)); refine blk_put (cs := #[.int .i64 0, .int .i64 0, .int .i64 0, .int .i64 0, .int .i64 0, .int .i64 0, .int .i64 0]) ?_ 2 _ rfl; (with_reducible repeat (first | refine blk_drewN ?_ _ | refine blk_drew ?_ | refine blk_alloc ?_ _)); refine blk_put (cs := #[.int .i64 0, .int .i64 0, .int .i64 0, .int .i64 0, .int .i64 0, .int .i64 0, .int .i64 0]) ?_ 1 _ rfl; (with_reducible repeat (first | refine blk_drewN ?_ _ | refine blk_drew ?_ | refine blk_alloc ?_ _)); refine blk_put (cs := #[.int .i64 0, .int .i64 0, .int .i64 0, .int .i64 0, .int .i64 0, .int .i64 0, .int .i64 0]) ?_ 0 _ rfl; (with_reducible repeat (first | refine blk_drewN ?_ _ | refine blk_drew ?_ | refine blk_alloc ?_ _)); exact BK243.out) Try.underlying34 rfl (by kernel_rfl)) rfl ?_
                            exact ⟨by first | rfl | (simp [errW_none, errW_some] <;> rfl) | (simp [*, errW_none, errW_some] <;> rfl), by repeat (first | (with_reducible first | exact HB.out | apply below_alloc | apply pw_below_drewN | apply below_drew1 | refine below_set ?_ GE243.out | refine below_set ?_ GE255.out) | exact HB.out)⟩
                          · replace c33 := Bool.eq_false_iff.mpr c33
                            subst c33
                            have H1 : (if (rd t244 1) > 16384 then (some (0, 0, 0, 0, 0, 0, 0, 7)) else ((postilionref11_may.f (rd t244 1) (rd t244 2) (rd t244 3) (rd t244 4) (rd t244 7) (rd t244 8) (rd t244 9)).bind fun t259 => (if t259 = true then (if (a0.size : Int) < (rd t244 1) then (some (0, 0, 0, 0, 0, 0, 0, 14)) else (some ((rd t244 1), (rd t244 2), (rd t244 3), (rd t244 4), (rd t244 7), (rd t244 8), (rd t244 9), 0))) else (some (0, 0, 0, 0, 0, 0, 0, 6))))) = some (r1, r2, r3, r4, r5, r6, r7, r8) := by rw [if_neg (show ¬ (false = true) by decide)] at H; exact H
                            clear H
                            have H := H1
                            clear H1
                            by_cases c36 : (rd t244 1) > 16384
                            · rw [if_pos c36] at H
                              have c36b0 : decide (16384 < (rd t244 1)) = true := decide_eq_true c36
                              clear c36
                              simp only [Option.some.injEq, Prod.mk.injEq] at H
                              obtain ⟨rfl, rfl, rfl, rfl, rfl, rfl, rfl, rfl⟩ := H
                              have hnb37 := NB255_243.out
                              have hnc37 := NB243_255.out
                              have hcz38_0 : wc.cell? ⟨gb255, 0, none⟩ = some (.int .i64 (rd t244 1)) := (blk_cell BK255.out 0).trans rfl
                              have hcz38_1 : wc.cell? ⟨gb255, 1, none⟩ = some (.int .i64 (rd t244 2)) := (blk_cell BK255.out 1).trans rfl
                              have hcz38_2 : wc.cell? ⟨gb255, 2, none⟩ = some (.int .i64 (rd t244 3)) := (blk_cell BK255.out 2).trans rfl
                              have hcz38_3 : wc.cell? ⟨gb255, 3, none⟩ = some (.int .i64 (rd t244 4)) := (blk_cell BK255.out 3).trans rfl
                              have hcz38_4 : wc.cell? ⟨gb255, 4, none⟩ = some (.int .i64 (rd t244 7)) := (blk_cell BK255.out 4).trans rfl
                              have hcz38_5 : wc.cell? ⟨gb255, 5, none⟩ = some (.int .i64 (rd t244 8)) := (blk_cell BK255.out 5).trans rfl
                              have hcz38_6 : wc.cell? ⟨gb255, 6, none⟩ = some (.int .i64 (rd t244 9)) := (blk_cell BK255.out 6).trans rfl
                              have hfz38_0 := blk_frozen BK255.out 0
                              have hfz38_1 := blk_frozen BK255.out 1
                              have hfz38_2 := blk_frozen BK255.out 2
                              have hfz38_3 := blk_frozen BK255.out 3
                              have hfz38_4 := blk_frozen BK255.out 4
                              have hfz38_5 := blk_frozen BK255.out 5
                              have hfz38_6 := blk_frozen BK255.out 6
                              have hcz39_0 : wc.cell? ⟨gb243, 0, none⟩ = some (.int .i64 0) := (blk_cell BK243.out 0).trans rfl
                              have hcz39_1 : wc.cell? ⟨gb243, 1, none⟩ = some (.int .i64 0) := (blk_cell BK243.out 1).trans rfl
                              have hcz39_2 : wc.cell? ⟨gb243, 2, none⟩ = some (.int .i64 0) := (blk_cell BK243.out 2).trans rfl
                              have hcz39_3 : wc.cell? ⟨gb243, 3, none⟩ = some (.int .i64 0) := (blk_cell BK243.out 3).trans rfl
                              have hcz39_4 : wc.cell? ⟨gb243, 4, none⟩ = some (.int .i64 0) := (blk_cell BK243.out 4).trans rfl
                              have hcz39_5 : wc.cell? ⟨gb243, 5, none⟩ = some (.int .i64 0) := (blk_cell BK243.out 5).trans rfl
                              have hcz39_6 : wc.cell? ⟨gb243, 6, none⟩ = some (.int .i64 0) := (blk_cell BK243.out 6).trans rfl
                              have hfz39_0 := blk_frozen BK243.out 0
                              have hfz39_1 := blk_frozen BK243.out 1
                              have hfz39_2 := blk_frozen BK243.out 2
                              have hfz39_3 := blk_frozen BK243.out 3
                              have hfz39_4 := blk_frozen BK243.out 4
                              have hfz39_5 := blk_frozen BK243.out 5
                              have hfz39_6 := blk_frozen BK243.out 6
                              go_wp2
                              refine bodyPost_ret (results_ct rfl _ _ gb243 34 #[.int .i64 0, .int .i64 0, .int .i64 0, .int .i64 0, .int .i64 0, .int .i64 0, .int .i64 0] (0, 0) _ rfl (by (with_reducible repeat (first | refine blk_drewN ?_ _ | refine blk_drew ?_ | refine blk_alloc ?_ _)); refine blk_put (cs := #[.int .i64 0, .int .i64 0, .int .i64 0, .int .i64 0, .int .i64 0, .int .i64 0, .int .i64 0]) ?_ 6 _ rfl; (with_reducible repeat (first | refine blk_drewN ?_ _ | refine blk_drew ?_ | refine blk_alloc ?_ _)); refine blk_put (cs := #[.int .i64 0, .int .i64 0, .int .i64 0, .int .i64 0, .int .i64 0, .int .i64 0, .int .i64 0]) ?_ 5 _ rfl; (with_reducible repeat (first | refine blk_drewN ?_ _ | refine blk_drew ?_ | refine blk_alloc ?_ _)); refine blk_put (cs := #[.int .i64 0, .int .i64 0, .int .i64 0, .int .i64 0, .int .i64 0, .int .i64 0, .int .i64 0]) ?_ 4 _ rfl; (with_reducible repeat (first | refine blk_drewN ?_ _ | refine blk_drew ?_ | refine blk_alloc ?_ _)); refine blk_put (cs := #[.int .i64 0, .int .i64 0, .int .i64 0, .int .i64 0, .int .i64 0, .int .i64 0, .int .i64 0]) ?_ 3 _ rfl; (with_reducible repeat (first | refine blk_drewN ?_ _ | refine blk_drew ?_ | refine blk_alloc ?_ _)); refine blk_put (cs := #[.int .i64 0, .int .i64 0, .int .i64 0, .int .i64 0, .int .i64 0, .int .i64 0, .int .i64 0]) ?_ 2 _ rfl; (with_reducible repeat (first | refine blk_drewN ?_ _ | refine blk_drew ?_ | refine blk_alloc ?_ _)); refine blk_put (cs := #[.int .i64 0, .int .i64 0, .int .i64 0, .int .i64 0, .int .i64 0, .int .i64 0, .int .i64 0]) ?_ 1 _ rfl; (with_reducible repeat (first | refine blk_drewN ?_ _ | refine blk_drew ?_ | refine blk_alloc ?_ _)); refine blk_put (cs := #[.int .i64 0, .int .i64 0, .int .i64 0, .int .i64 0, .int .i64 0, .int .i64 0, .int .i64 0]) ?_ 0 _ rfl; (with_reducible repeat (first | refine blk_drewN ?_ _ | refine blk_drew ?_ | refine blk_alloc ?_ _)); exact BK243.out) Try.underlying34 rfl (by kernel_rfl)) rfl ?_
                              exact ⟨by first | rfl | (simp [errW_none, errW_some] <;> rfl) | (simp [*, errW_none, errW_some] <;> rfl), by repeat (first | (with_reducible first | exact HB.out | apply below_alloc | apply pw_below_drewN | apply below_drew1 | refine below_set ?_ GE243.out | refine below_set ?_ GE255.out) | exact HB.out)⟩
                            · rw [if_neg c36] at H
                              have c36b0 : decide (16384 < (rd t244 1)) = false := decide_eq_false c36
                              clear c36
                              replace H := Option.bind_eq_some_iff.mp H
                              obtain ⟨t259, A400, H⟩ := H
                              replace H : (if t259 = true then (if (a0.size : Int) < (rd t244 1) then (some (0, 0, 0, 0, 0, 0, 0, 14)) else (some ((rd t244 1), (rd t244 2), (rd t244 3), (rd t244 4), (rd t244 7), (rd t244 8), (rd t244 9), 0))) else (some (0, 0, 0, 0, 0, 0, 0, 6))) = some (r1, r2, r3, r4, r5, r6, r7, r8) := H
                              have A40 := Aside0.mk A400
                              clear A400
                              by_cases c41 : t259 = true
                              · subst c41
                                have H1 : (if (a0.size : Int) < (rd t244 1) then (some (0, 0, 0, 0, 0, 0, 0, 14)) else (some ((rd t244 1), (rd t244 2), (rd t244 3), (rd t244 4), (rd t244 7), (rd t244 8), (rd t244 9), 0))) = some (r1, r2, r3, r4, r5, r6, r7, r8) := by rw [if_pos rfl] at H; exact H
                                clear H
                                have H := H1
                                clear H1
                                by_cases c42 : (a0.size : Int) < (rd t244 1)
                                · rw [if_pos c42] at H
                                  have c42b0 : decide ((a0.size : Int) < (rd t244 1)) = true := decide_eq_true c42
                                  clear c42
                                  simp only [Option.some.injEq, Prod.mk.injEq] at H
                                  obtain ⟨rfl, rfl, rfl, rfl, rfl, rfl, rfl, rfl⟩ := H
                                  have hnb43 := NB255_243.out
                                  have hnc43 := NB243_255.out
                                  have hcz44_0 : wc.cell? ⟨gb255, 0, none⟩ = some (.int .i64 (rd t244 1)) := (blk_cell BK255.out 0).trans rfl
                                  have hcz44_1 : wc.cell? ⟨gb255, 1, none⟩ = some (.int .i64 (rd t244 2)) := (blk_cell BK255.out 1).trans rfl
                                  have hcz44_2 : wc.cell? ⟨gb255, 2, none⟩ = some (.int .i64 (rd t244 3)) := (blk_cell BK255.out 2).trans rfl
                                  have hcz44_3 : wc.cell? ⟨gb255, 3, none⟩ = some (.int .i64 (rd t244 4)) := (blk_cell BK255.out 3).trans rfl
                                  have hcz44_4 : wc.cell? ⟨gb255, 4, none⟩ = some (.int .i64 (rd t244 7)) := (blk_cell BK255.out 4).trans rfl
                                  have hcz44_5 : wc.cell? ⟨gb255, 5, none⟩ = some (.int .i64 (rd t244 8)) := (blk_cell BK255.out 5).trans rfl
                                  have hcz44_6 : wc.cell? ⟨gb255, 6, none⟩ = some (.int .i64 (rd t244 9)) := (blk_cell BK255.out 6).trans rfl
                                  have hfz44_0 := blk_frozen BK255.out 0
                                  have hfz44_1 := blk_frozen BK255.out 1
                                  have hfz44_2 := blk_frozen BK255.out 2
                                  have hfz44_3 := blk_frozen BK255.out 3
                                  have hfz44_4 := blk_frozen BK255.out 4
                                  have hfz44_5 := blk_frozen BK255.out 5
                                  have hfz44_6 := blk_frozen BK255.out 6
                                  go_wp2_with (first | ((with_reducible refine gate_callee (f := 59) rfl ?_); refine goesL_ (some 64) rfl rfl Try.func59 (by kernel_rfl) rfl #[.agg #[.int .i64 (rd t244 1), .int .i64 (rd t244 2), .int .i64 (rd t244 3), .int .i64 (rd t244 4), .int .i64 (rd t244 7), .int .i64 (rd t244 8), .int .i64 (rd t244 9)]] rfl (by (try simp only [List.map_toArray, List.map_cons, List.map_nil]); first | done | rfl | (simp only [List.length_drop, List.length_take]; rfl)) ?_; (with_reducible refine (postilionref11_may.calls (rd t244 1) (rd t244 2) (rd t244 3) (rd t244 4) (rd t244 7) (rd t244 8) (rd t244 9) true _ A40.out).mono ?_); rintro e w45 ⟨rfl, hb⟩; refine ⟨_, rfl, ?_⟩; have n0_ := Aside0.mk (blk_below (g := gb243) (o := .cells #[.int .i64 0, .int .i64 0, .int .i64 0, .int .i64 0, .int .i64 0, .int .i64 0, .int .i64 0] 34 (0, 0)) (by (with_reducible repeat (first | refine blk_drewN ?_ _ | refine blk_drew ?_ | refine blk_alloc ?_ _)); exact BK243.out) hb); have n1_ := Aside0.mk (blk_below (g := gb255) (o := .cells #[.int .i64 (rd t244 1), .int .i64 (rd t244 2), .int .i64 (rd t244 3), .int .i64 (rd t244 4), .int .i64 (rd t244 7), .int .i64 (rd t244 8), .int .i64 (rd t244 9)] 34 (0, 0)) (by (with_reducible repeat (first | refine blk_drewN ?_ _ | refine blk_drew ?_ | refine blk_alloc ?_ _)); exact BK255.out) hb); have n2_ := Aside0.mk (below_step (by repeat (first | (with_reducible first | exact HB.out | apply below_alloc | apply pw_below_drewN | apply below_drew1 | refine below_set ?_ GE243.out | refine below_set ?_ GE255.out) | exact HB.out)) hb); clear BK243; clear BK255; clear HB; have BK243 := n0_; have BK255 := n1_; have HB := n2_; clear n0_ n1_ n2_; (try clear hb); (try clear hb2); (try clear hk); (try clear hi); have hcz46_0 : w45.cell? ⟨gb255, 0, none⟩ = some (.int .i64 (rd t244 1)) := (blk_cell BK255.out 0).trans rfl; have hcz46_1 : w45.cell? ⟨gb255, 1, none⟩ = some (.int .i64 (rd t244 2)) := (blk_cell BK255.out 1).trans rfl; have hcz46_2 : w45.cell? ⟨gb255, 2, none⟩ = some (.int .i64 (rd t244 3)) := (blk_cell BK255.out 2).trans rfl; have hcz46_3 : w45.cell? ⟨gb255, 3, none⟩ = some (.int .i64 (rd t244 4)) := (blk_cell BK255.out 3).trans rfl; have hcz46_4 : w45.cell? ⟨gb255, 4, none⟩ = some (.int .i64 (rd t244 7)) := (blk_cell BK255.out 4).trans rfl; have hcz46_5 : w45.cell? ⟨gb255, 5, none⟩ = some (.int .i64 (rd t244 8)) := (blk_cell BK255.out 5).trans rfl; have hcz46_6 : w45.cell? ⟨gb255, 6, none⟩ = some (.int .i64 (rd t244 9)) := (blk_cell BK255.out 6).trans rfl; have hfz46_0 := blk_frozen BK255.out 0; have hfz46_1 := blk_frozen BK255.out 1; have hfz46_2 := blk_frozen BK255.out 2; have hfz46_3 := blk_frozen BK255.out 3; have hfz46_4 := blk_frozen BK255.out 4; have hfz46_5 := blk_frozen BK255.out 5; have hfz46_6 := blk_frozen BK255.out 6; have hcz47_0 : w45.cell? ⟨gb243, 0, none⟩ = some (.int .i64 0) := (blk_cell BK243.out 0).trans rfl; have hcz47_1 : w45.cell? ⟨gb243, 1, none⟩ = some (.int .i64 0) := (blk_cell BK243.out 1).trans rfl; have hcz47_2 : w45.cell? ⟨gb243, 2, none⟩ = some (.int .i64 0) := (blk_cell BK243.out 2).trans rfl; have hcz47_3 : w45.cell? ⟨gb243, 3, none⟩ = some (.int .i64 0) := (blk_cell BK243.out 3).trans rfl; have hcz47_4 : w45.cell? ⟨gb243, 4, none⟩ = some (.int .i64 0) := (blk_cell BK243.out 4).trans rfl; have hcz47_5 : w45.cell? ⟨gb243, 5, none⟩ = some (.int .i64 0) := (blk_cell BK243.out 5).trans rfl; have hcz47_6 : w45.cell? ⟨gb243, 6, none⟩ = some (.int .i64 0) := (blk_cell BK243.out 6).trans rfl; have hfz47_0 := blk_frozen BK243.out 0; have hfz47_1 := blk_frozen BK243.out 1; have hfz47_2 := blk_frozen BK243.out 2; have hfz47_3 := blk_frozen BK243.out 3; have hfz47_4 := blk_frozen BK243.out 4; have hfz47_5 := blk_frozen BK243.out 5; have hfz47_6 := blk_frozen BK243.out 6))
                                  refine bodyPost_ret (results_ct rfl _ _ gb243 34 #[.int .i64 0, .int .i64 0, .int .i64 0, .int .i64 0, .int .i64 0, .int .i64 0, .int .i64 0] (0, 0) _ rfl (by (with_reducible repeat (first | refine blk_drewN ?_ _ | refine blk_drew ?_ | refine blk_alloc ?_ _)); refine blk_put (cs := #[.int .i64 0, .int .i64 0, .int .i64 0, .int .i64 0, .int .i64 0, .int .i64 0, .int .i64 0]) ?_ 6 _ rfl; (with_reducible repeat (first | refine blk_drewN ?_ _ | refine blk_drew ?_ | refine blk_alloc ?_ _)); refine blk_put (cs := #[.int .i64 0, .int .i64 0, .int .i64 0, .int .i64 0, .int .i64 0, .int .i64 0, .int .i64 0]) ?_ 5 _ rfl; (with_reducible repeat (first | refine blk_drewN ?_ _ | refine blk_drew ?_ | refine blk_alloc ?_ _)); refine blk_put (cs := #[.int .i64 0, .int .i64 0, .int .i64 0, .int .i64 0, .int .i64 0, .int .i64 0, .int .i64 0]) ?_ 4 _ rfl; (with_reducible repeat (first | refine blk_drewN ?_ _ | refine blk_drew ?_ | refine blk_alloc ?_ _)); refine blk_put (cs := #[.int .i64 0, .int .i64 0, .int .i64 0, .int .i64 0, .int .i64 0, .int .i64 0, .int .i64 0]) ?_ 3 _ rfl; (with_reducible repeat (first | refine blk_drewN ?_ _ | refine blk_drew ?_ | refine blk_alloc ?_ _)); refine blk_put (cs := #[.int .i64 0, .int .i64 0, .int .i64 0, .int .i64 0, .int .i64 0, .int .i64 0, .int .i64 0]) ?_ 2 _ rfl; (with_reducible repeat (first | refine blk_drewN ?_ _ | refine blk_drew ?_ | refine blk_alloc ?_ _)); refine blk_put (cs := #[.int .i64 0, .int .i64 0, .int .i64 0, .int .i64 0, .int .i64 0, .int .i64 0, .int .i64 0]) ?_ 1 _ rfl; (with_reducible repeat (first | refine blk_drewN ?_ _ | refine blk_drew ?_ | refine blk_alloc ?_ _)); refine blk_put (cs := #[.int .i64 0, .int .i64 0, .int .i64 0, .int .i64 0, .int .i64 0, .int .i64 0, .int .i64 0]) ?_ 0 _ rfl; (with_reducible repeat (first | refine blk_drewN ?_ _ | refine blk_drew ?_ | refine blk_alloc ?_ _)); exact BK243.out) Try.underlying34 rfl (by kernel_rfl)) rfl ?_
                                  exact ⟨by first | rfl | (simp [errW_none, errW_some] <;> rfl) | (simp [*, errW_none, errW_some] <;> rfl), by repeat (first | (with_reducible first | exact HB.out | apply below_alloc | apply pw_below_drewN | apply below_drew1 | refine below_set ?_ GE243.out | refine below_set ?_ GE255.out) | exact HB.out)⟩
                                · rw [if_neg c42] at H
                                  have c42b0 : decide ((a0.size : Int) < (rd t244 1)) = false := decide_eq_false c42
                                  clear c42
                                  simp only [Option.some.injEq, Prod.mk.injEq] at H
                                  obtain ⟨rfl, rfl, rfl, rfl, rfl, rfl, rfl, rfl⟩ := H
                                  have hnb48 := NB255_243.out
                                  have hnc48 := NB243_255.out
                                  have hcz49_0 : wc.cell? ⟨gb255, 0, none⟩ = some (.int .i64 (rd t244 1)) := (blk_cell BK255.out 0).trans rfl
                                  have hcz49_1 : wc.cell? ⟨gb255, 1, none⟩ = some (.int .i64 (rd t244 2)) := (blk_cell BK255.out 1).trans rfl
                                  have hcz49_2 : wc.cell? ⟨gb255, 2, none⟩ = some (.int .i64 (rd t244 3)) := (blk_cell BK255.out 2).trans rfl
                                  have hcz49_3 : wc.cell? ⟨gb255, 3, none⟩ = some (.int .i64 (rd t244 4)) := (blk_cell BK255.out 3).trans rfl
                                  have hcz49_4 : wc.cell? ⟨gb255, 4, none⟩ = some (.int .i64 (rd t244 7)) := (blk_cell BK255.out 4).trans rfl
                                  have hcz49_5 : wc.cell? ⟨gb255, 5, none⟩ = some (.int .i64 (rd t244 8)) := (blk_cell BK255.out 5).trans rfl
                                  have hcz49_6 : wc.cell? ⟨gb255, 6, none⟩ = some (.int .i64 (rd t244 9)) := (blk_cell BK255.out 6).trans rfl
                                  have hfz49_0 := blk_frozen BK255.out 0
                                  have hfz49_1 := blk_frozen BK255.out 1
                                  have hfz49_2 := blk_frozen BK255.out 2
                                  have hfz49_3 := blk_frozen BK255.out 3
                                  have hfz49_4 := blk_frozen BK255.out 4
                                  have hfz49_5 := blk_frozen BK255.out 5
                                  have hfz49_6 := blk_frozen BK255.out 6
                                  go_wp2_with (first | ((with_reducible refine gate_callee (f := 59) rfl ?_); refine goesL_ (some 64) rfl rfl Try.func59 (by kernel_rfl) rfl #[.agg #[.int .i64 (rd t244 1), .int .i64 (rd t244 2), .int .i64 (rd t244 3), .int .i64 (rd t244 4), .int .i64 (rd t244 7), .int .i64 (rd t244 8), .int .i64 (rd t244 9)]] rfl (by (try simp only [List.map_toArray, List.map_cons, List.map_nil]); first | done | rfl | (simp only [List.length_drop, List.length_take]; rfl)) ?_; (with_reducible refine (postilionref11_may.calls (rd t244 1) (rd t244 2) (rd t244 3) (rd t244 4) (rd t244 7) (rd t244 8) (rd t244 9) true _ A40.out).mono ?_); rintro e w50 ⟨rfl, hb⟩; refine ⟨_, rfl, ?_⟩; have n0_ := Aside0.mk (blk_below (g := gb243) (o := .cells #[.int .i64 0, .int .i64 0, .int .i64 0, .int .i64 0, .int .i64 0, .int .i64 0, .int .i64 0] 34 (0, 0)) (by (with_reducible repeat (first | refine blk_drewN ?_ _ | refine blk_drew ?_ | refine blk_alloc ?_ _)); exact BK243.out) hb); have n1_ := Aside0.mk (blk_below (g := gb255) (o := .cells #[.int .i64 (rd t244 1), .int .i64 (rd t244 2), .int .i64 (rd t244 3), .int .i64 (rd t244 4), .int .i64 (rd t244 7), .int .i64 (rd t244 8), .int .i64 (rd t244 9)] 34 (0, 0)) (by (with_reducible repeat (first | refine blk_drewN ?_ _ | refine blk_drew ?_ | refine blk_alloc ?_ _)); exact BK255.out) hb); have n2_ := Aside0.mk (below_step (by repeat (first | (with_reducible first | exact HB.out | apply below_alloc | apply pw_below_drewN | apply below_drew1 | refine below_set ?_ GE243.out | refine below_set ?_ GE255.out) | exact HB.out)) hb); clear BK243; clear BK255; clear HB; have BK243 := n0_; have BK255 := n1_; have HB := n2_; clear n0_ n1_ n2_; (try clear hb); (try clear hb2); (try clear hk); (try clear hi); have hcz51_0 : w50.cell? ⟨gb255, 0, none⟩ = some (.int .i64 (rd t244 1)) := (blk_cell BK255.out 0).trans rfl; have hcz51_1 : w50.cell? ⟨gb255, 1, none⟩ = some (.int .i64 (rd t244 2)) := (blk_cell BK255.out 1).trans rfl; have hcz51_2 : w50.cell? ⟨gb255, 2, none⟩ = some (.int .i64 (rd t244 3)) := (blk_cell BK255.out 2).trans rfl; have hcz51_3 : w50.cell? ⟨gb255, 3, none⟩ = some (.int .i64 (rd t244 4)) := (blk_cell BK255.out 3).trans rfl; have hcz51_4 : w50.cell? ⟨gb255, 4, none⟩ = some (.int .i64 (rd t244 7)) := (blk_cell BK255.out 4).trans rfl; have hcz51_5 : w50.cell? ⟨gb255, 5, none⟩ = some (.int .i64 (rd t244 8)) := (blk_cell BK255.out 5).trans rfl; have hcz51_6 : w50.cell? ⟨gb255, 6, none⟩ = some (.int .i64 (rd t244 9)) := (blk_cell BK255.out 6).trans rfl; have hfz51_0 := blk_frozen BK255.out 0; have hfz51_1 := blk_frozen BK255.out 1; have hfz51_2 := blk_frozen BK255.out 2; have hfz51_3 := blk_frozen BK255.out 3; have hfz51_4 := blk_frozen BK255.out 4; have hfz51_5 := blk_frozen BK255.out 5; have hfz51_6 := blk_frozen BK255.out 6; have hcz52_0 : w50.cell? ⟨gb243, 0, none⟩ = some (.int .i64 0) := (blk_cell BK243.out 0).trans rfl; have hcz52_1 : w50.cell? ⟨gb243, 1, none⟩ = some (.int .i64 0) := (blk_cell BK243.out 1).trans rfl; have hcz52_2 : w50.cell? ⟨gb243, 2, none⟩ = some (.int .i64 0) := (blk_cell BK243.out 2).trans rfl; have hcz52_3 : w50.cell? ⟨gb243, 3, none⟩ = some (.int .i64 0) := (blk_cell BK243.out 3).trans rfl; have hcz52_4 : w50.cell? ⟨gb243, 4, none⟩ = some (.int .i64 0) := (blk_cell BK243.out 4).trans rfl; have hcz52_5 : w50.cell? ⟨gb243, 5, none⟩ = some (.int .i64 0) := (blk_cell BK243.out 5).trans rfl; have hcz52_6 : w50.cell? ⟨gb243, 6, none⟩ = some (.int .i64 0) := (blk_cell BK243.out 6).trans rfl; have hfz52_0 := blk_frozen BK243.out 0; have hfz52_1 := blk_frozen BK243.out 1; have hfz52_2 := blk_frozen BK243.out 2; have hfz52_3 := blk_frozen BK243.out 3; have hfz52_4 := blk_frozen BK243.out 4; have hfz52_5 := blk_frozen BK243.out 5; have hfz52_6 := blk_frozen BK243.out 6))
                                  refine bodyPost_ret (results_ct rfl _ _ gb243 34 #[.int .i64 (rd t244 1), .int .i64 (rd t244 2), .int .i64 (rd t244 3), .int .i64 (rd t244 4), .int .i64 (rd t244 7), .int .i64 (rd t244 8), .int .i64 (rd t244 9)] (0, 0) _ rfl (by (with_reducible repeat (first | refine blk_drewN ?_ _ | refine blk_drew ?_ | refine blk_alloc ?_ _)); refine blk_put (cs := #[.int .i64 (rd t244 1), .int .i64 (rd t244 2), .int .i64 (rd t244 3), .int .i64 (rd t244 4), .int .i64 (rd t244 7), .int .i64 (rd t244 8), .int .i64 0]) ?_ 6 _ rfl; (with_reducible repeat (first | refine blk_drewN ?_ _ | refine blk_drew ?_ | refine blk_alloc ?_ _)); refine blk_put (cs := #[.int .i64 (rd t244 1), .int .i64 (rd t244 2), .int .i64 (rd t244 3), .int .i64 (rd t244 4), .int .i64 (rd t244 7), .int .i64 0, .int .i64 0]) ?_ 5 _ rfl; (with_reducible repeat (first | refine blk_drewN ?_ _ | refine blk_drew ?_ | refine blk_alloc ?_ _)); refine blk_put (cs := #[.int .i64 (rd t244 1), .int .i64 (rd t244 2), .int .i64 (rd t244 3), .int .i64 (rd t244 4), .int .i64 0, .int .i64 0, .int .i64 0]) ?_ 4 _ rfl; (with_reducible repeat (first | refine blk_drewN ?_ _ | refine blk_drew ?_ | refine blk_alloc ?_ _)); refine blk_put (cs := #[.int .i64 (rd t244 1), .int .i64 (rd t244 2), .int .i64 (rd t244 3), .int .i64 0, .int .i64 0, .int .i64 0, .int .i64 0]) ?_ 3 _ rfl; (with_reducible repeat (first | refine blk_drewN ?_ _ | refine blk_drew ?_ | refine blk_alloc ?_ _)); refine blk_put (cs := #[.int .i64 (rd t244 1), .int .i64 (rd t244 2), .int .i64 0, .int .i64 0, .int .i64 0, .int .i64 0, .int .i64 0]) ?_ 2 _ rfl; (with_reducible repeat (first | refine blk_drewN ?_ _ | refine blk_drew ?_ | refine blk_alloc ?_ _)); refine blk_put (cs := #[.int .i64 (rd t244 1), .int .i64 0, .int .i64 0, .int .i64 0, .int .i64 0, .int .i64 0, .int .i64 0]) ?_ 1 _ rfl; (with_reducible repeat (first | refine blk_drewN ?_ _ | refine blk_drew ?_ | refine blk_alloc ?_ _)); refine blk_put (cs := #[.int .i64 0, .int .i64 0, .int .i64 0, .int .i64 0, .int .i64 0, .int .i64 0, .int .i64 0]) ?_ 0 _ rfl; (with_reducible repeat (first | refine blk_drewN ?_ _ | refine blk_drew ?_ | refine blk_alloc ?_ _)); exact BK243.out) Try.underlying34 rfl (by kernel_rfl)) rfl ?_
                                  exact ⟨by first | rfl | (simp [errW_none, errW_some] <;> rfl) | (simp [*, errW_none, errW_some] <;> rfl), by repeat (first | (with_reducible first | exact HB.out | apply below_alloc | apply pw_below_drewN | apply below_drew1 | refine below_set ?_ GE243.out | refine below_set ?_ GE255.out) | exact HB.out)⟩
                              · replace c41 := Bool.eq_false_iff.mpr c41
                                subst c41
                                have H1 : (some (0, 0, 0, 0, 0, 0, 0, 6)) = some (r1, r2, r3, r4, r5, r6, r7, r8) := by rw [if_neg (show ¬ (false = true) by decide)] at H; exact H
                                clear H
                                have H := H1
                                clear H1
                                simp only [Option.some.injEq, Prod.mk.injEq] at H
                                obtain ⟨rfl, rfl, rfl, rfl, rfl, rfl, rfl, rfl⟩ := H
                                have hnb53 := NB255_243.out
                                have hnc53 := NB243_255.out
                                have hcz54_0 : wc.cell? ⟨gb255, 0, none⟩ = some (.int .i64 (rd t244 1)) := (blk_cell BK255.out 0).trans rfl
                                have hcz54_1 : wc.cell? ⟨gb255, 1, none⟩ = some (.int .i64 (rd t244 2)) := (blk_cell BK255.out 1).trans rfl
                                have hcz54_2 : wc.cell? ⟨gb255, 2, none⟩ = some (.int .i64 (rd t244 3)) := (blk_cell BK255.out 2).trans rfl
                                have hcz54_3 : wc.cell? ⟨gb255, 3, none⟩ = some (.int .i64 (rd t244 4)) := (blk_cell BK255.out 3).trans rfl
                                have hcz54_4 : wc.cell? ⟨gb255, 4, none⟩ = some (.int .i64 (rd t244 7)) := (blk_cell BK255.out 4).trans rfl
                                have hcz54_5 : wc.cell? ⟨gb255, 5, none⟩ = some (.int .i64 (rd t244 8)) := (blk_cell BK255.out 5).trans rfl
                                have hcz54_6 : wc.cell? ⟨gb255, 6, none⟩ = some (.int .i64 (rd t244 9)) := (blk_cell BK255.out 6).trans rfl
                                have hfz54_0 := blk_frozen BK255.out 0
                                have hfz54_1 := blk_frozen BK255.out 1
                                have hfz54_2 := blk_frozen BK255.out 2
                                have hfz54_3 := blk_frozen BK255.out 3
                                have hfz54_4 := blk_frozen BK255.out 4
                                have hfz54_5 := blk_frozen BK255.out 5
                                have hfz54_6 := blk_frozen BK255.out 6
                                go_wp2_with (first | ((with_reducible refine gate_callee (f := 59) rfl ?_); refine goesL_ (some 64) rfl rfl Try.func59 (by kernel_rfl) rfl #[.agg #[.int .i64 (rd t244 1), .int .i64 (rd t244 2), .int .i64 (rd t244 3), .int .i64 (rd t244 4), .int .i64 (rd t244 7), .int .i64 (rd t244 8), .int .i64 (rd t244 9)]] rfl (by (try simp only [List.map_toArray, List.map_cons, List.map_nil]); first | done | rfl | (simp only [List.length_drop, List.length_take]; rfl)) ?_; (with_reducible refine (postilionref11_may.calls (rd t244 1) (rd t244 2) (rd t244 3) (rd t244 4) (rd t244 7) (rd t244 8) (rd t244 9) false _ A40.out).mono ?_); rintro e w55 ⟨rfl, hb⟩; refine ⟨_, rfl, ?_⟩; have n0_ := Aside0.mk (blk_below (g := gb243) (o := .cells #[.int .i64 0, .int .i64 0, .int .i64 0, .int .i64 0, .int .i64 0, .int .i64 0, .int .i64 0] 34 (0, 0)) (by (with_reducible repeat (first | refine blk_drewN ?_ _ | refine blk_drew ?_ | refine blk_alloc ?_ _)); exact BK243.out) hb); have n1_ := Aside0.mk (blk_below (g := gb255) (o := .cells #[.int .i64 (rd t244 1), .int .i64 (rd t244 2), .int .i64 (rd t244 3), .int .i64 (rd t244 4), .int .i64 (rd t244 7), .int .i64 (rd t244 8), .int .i64 (rd t244 9)] 34 (0, 0)) (by (with_reducible repeat (first | refine blk_drewN ?_ _ | refine blk_drew ?_ | refine blk_alloc ?_ _)); exact BK255.out) hb); have n2_ := Aside0.mk (below_step (by repeat (first | (with_reducible first | exact HB.out | apply below_alloc | apply pw_below_drewN | apply below_drew1 | refine below_set ?_ GE243.out | refine below_set ?_ GE255.out) | exact HB.out)) hb); clear BK243; clear BK255; clear HB; have BK243 := n0_; have BK255 := n1_; have HB := n2_; clear n0_ n1_ n2_; (try clear hb); (try clear hb2); (try clear hk); (try clear hi); have hcz56_0 : w55.cell? ⟨gb243, 0, none⟩ = some (.int .i64 0) := (blk_cell BK243.out 0).trans rfl; have hcz56_1 : w55.cell? ⟨gb243, 1, none⟩ = some (.int .i64 0) := (blk_cell BK243.out 1).trans rfl; have hcz56_2 : w55.cell? ⟨gb243, 2, none⟩ = some (.int .i64 0) := (blk_cell BK243.out 2).trans rfl; have hcz56_3 : w55.cell? ⟨gb243, 3, none⟩ = some (.int .i64 0) := (blk_cell BK243.out 3).trans rfl; have hcz56_4 : w55.cell? ⟨gb243, 4, none⟩ = some (.int .i64 0) := (blk_cell BK243.out 4).trans rfl; have hcz56_5 : w55.cell? ⟨gb243, 5, none⟩ = some (.int .i64 0) := (blk_cell BK243.out 5).trans rfl; have hcz56_6 : w55.cell? ⟨gb243, 6, none⟩ = some (.int .i64 0) := (blk_cell BK243.out 6).trans rfl; have hfz56_0 := blk_frozen BK243.out 0; have hfz56_1 := blk_frozen BK243.out 1; have hfz56_2 := blk_frozen BK243.out 2; have hfz56_3 := blk_frozen BK243.out 3; have hfz56_4 := blk_frozen BK243.out 4; have hfz56_5 := blk_frozen BK243.out 5; have hfz56_6 := blk_frozen BK243.out 6))
                                refine bodyPost_ret (results_ct rfl _ _ gb243 34 #[.int .i64 0, .int .i64 0, .int .i64 0, .int .i64 0, .int .i64 0, .int .i64 0, .int .i64 0] (0, 0) _ rfl (by (with_reducible repeat (first | refine blk_drewN ?_ _ | refine blk_drew ?_ | refine blk_alloc ?_ _)); refine blk_put (cs := #[.int .i64 0, .int .i64 0, .int .i64 0, .int .i64 0, .int .i64 0, .int .i64 0, .int .i64 0]) ?_ 6 _ rfl; (with_reducible repeat (first | refine blk_drewN ?_ _ | refine blk_drew ?_ | refine blk_alloc ?_ _)); refine blk_put (cs := #[.int .i64 0, .int .i64 0, .int .i64 0, .int .i64 0, .int .i64 0, .int .i64 0, .int .i64 0]) ?_ 5 _ rfl; (with_reducible repeat (first | refine blk_drewN ?_ _ | refine blk_drew ?_ | refine blk_alloc ?_ _)); refine blk_put (cs := #[.int .i64 0, .int .i64 0, .int .i64 0, .int .i64 0, .int .i64 0, .int .i64 0, .int .i64 0]) ?_ 4 _ rfl; (with_reducible repeat (first | refine blk_drewN ?_ _ | refine blk_drew ?_ | refine blk_alloc ?_ _)); refine blk_put (cs := #[.int .i64 0, .int .i64 0, .int .i64 0, .int .i64 0, .int .i64 0, .int .i64 0, .int .i64 0]) ?_ 3 _ rfl; (with_reducible repeat (first | refine blk_drewN ?_ _ | refine blk_drew ?_ | refine blk_alloc ?_ _)); refine blk_put (cs := #[.int .i64 0, .int .i64 0, .int .i64 0, .int .i64 0, .int .i64 0, .int .i64 0, .int .i64 0]) ?_ 2 _ rfl; (with_reducible repeat (first | refine blk_drewN ?_ _ | refine blk_drew ?_ | refine blk_alloc ?_ _)); refine blk_put (cs := #[.int .i64 0, .int .i64 0, .int .i64 0, .int .i64 0, .int .i64 0, .int .i64 0, .int .i64 0]) ?_ 1 _ rfl; (with_reducible repeat (first | refine blk_drewN ?_ _ | refine blk_drew ?_ | refine blk_alloc ?_ _)); refine blk_put (cs := #[.int .i64 0, .int .i64 0, .int .i64 0, .int .i64 0, .int .i64 0, .int .i64 0, .int .i64 0]) ?_ 0 _ rfl; (with_reducible repeat (first | refine blk_drewN ?_ _ | refine blk_drew ?_ | refine blk_alloc ?_ _)); exact BK243.out) Try.underlying34 rfl (by kernel_rfl)) rfl ?_
                                exact ⟨by first | rfl | (simp [errW_none, errW_some] <;> rfl) | (simp [*, errW_none, errW_some] <;> rfl), by repeat (first | (with_reducible first | exact HB.out | apply below_alloc | apply pw_below_drewN | apply below_drew1 | refine below_set ?_ GE243.out | refine below_set ?_ GE255.out) | exact HB.out)⟩
                    · rw [if_neg c14] at H
                      exact absurd H (by simp)
                  · rw [if_neg c13] at H
                    exact absurd H (by simp)
                · rw [if_neg c12] at H
                  exact absurd H (by simp)
              · rw [if_neg c11] at H
                exact absurd H (by simp)
            · rw [if_neg c10] at H
              exact absurd H (by simp)
          · rw [if_neg c9] at H
            exact absurd H (by simp)
        · rw [if_neg c8] at H
          exact absurd H (by simp)
      · rw [if_neg c6] at H
        exact absurd H (by simp)
    · rw [if_neg c5] at H
      exact absurd H (by simp)

end Go.Proofs.Ythpgppamdejjhaa.X
