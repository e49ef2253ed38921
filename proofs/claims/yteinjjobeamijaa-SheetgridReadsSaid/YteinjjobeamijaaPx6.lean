-- Written by wip/tools/xprint.py (this session's program, over the kit's print.py) for this seat.
import Derived.Test.YteinjjobeamijaaPx0
import Derived.Test.YteinjjobeamijaaPx1
import Derived.Test.YteinjjobeamijaaPx2
import Derived.Test.YteinjjobeamijaaPx4
import Derived.Test.YteinjjobeamijaaPx5
namespace Go.Proofs.Yteinjjobeamijaa.P
open Go.RowKit Go.Proofs.YteinjjobeamijaaW.PrintWords Go.Proofs.YteinjjobeamijaaW.PrintLast Go.Proofs.YteinjjobeamijaaW.PrintMore
attribute [local go_sem] max2_int min2_int max_two min_two max_three min_three max_four min_four   -- for this text's walks alone
set_option linter.unusedVariables false
set_option linter.unusedSimpArgs false

attribute [local go_sem high] eqA27
/-! ### sheetgrid_Parse: function 24 -/
mutual
def sheetgrid_Parse.j0 : Nat → ByteArray → Bool → Int → Int → Int → Int → Int → Int → Option (Int × Int)
  | 0, _, _, _, _, _, _, _, _ => none
  | k + 1, x1, x28, x174000, x174001, x174002, x174003, x174004, x174005 => if x28 = true then (some (0, 20)) else (sheetgrid_Parse.l0 k x1 0 1 x174000 x174001 x174002 x174003 x174004 x174005)
def sheetgrid_Parse.l0 : Nat → ByteArray → Int → Int → Int → Int → Int → Int → Int → Int → Option (Int × Int)
  | 0, _, _, _, _, _, _, _, _, _ => none
  | k + 1, x1, x7, x8, x174000, x174001, x174002, x174003, x174004, x174005 => if x8 < (x1.size : Int) then (if 0 ≤ x8 then (if (bt x1 x8) < 48 then (some (0, 20)) else (if (bt x1 x8) > 57 then (some (0, 20)) else (sheetgrid_Parse.l0 k x1 (wrap64 ((wrap64 (10 * x7)) + (((bt x1 x8) - 48) % 256))) (wrap64 (x8 + 1)) x174000 x174001 x174002 x174003 x174004 x174005))) else (none)) else ((sheetgrid_letters.f).bind fun _ => (sheetgrid_Parse.l1 k x1 x7 0 x174000 x174001 x174002 x174003 x174004 x174005))
def sheetgrid_Parse.l1 : Nat → ByteArray → Int → Int → Int → Int → Int → Int → Int → Int → Option (Int × Int)
  | 0, _, _, _, _, _, _, _, _, _ => none
  | k + 1, x1, x7, x54, x174000, x174001, x174002, x174003, x174004, x174005 => if x54 < 16 then (if 0 ≤ x54 then (if 0 < (x1.size : Int) then (if (rd [65, 66, 67, 68, 69, 70, 71, 72, 73, 74, 75, 76, 77, 78, 79, 80] x54) = (bt x1 0) then (if x54 ≥ x174004 then (some (0, 7)) else (if x7 > x174005 then (some (0, 7)) else (some (wrap64 ((wrap64 ((wrap64 ((wrap64 (x7 - 1)) * x174004)) + x54)) + 1), 0)))) else (sheetgrid_Parse.l1 k x1 x7 (wrap64 (x54 + 1)) x174000 x174001 x174002 x174003 x174004 x174005)) else (none)) else (none)) else (some (0, 20))
end
def sheetgrid_Parse.f (k : Nat) (a0_0 : Int) (a0_1 : Int) (a0_2 : Int) (a0_3 : Int) (a0_4 : Int) (a0_5 : Int) (a1 : ByteArray) : Option (Int × Int) := (sheetgrid_Check.f k a0_0 a0_1 a0_2 a0_3 a0_4 a0_5).bind fun t174 => (if t174 = 0 then (if (a1.size : Int) < 2 then (sheetgrid_Parse.j0 k a1 true a0_0 a0_1 a0_2 a0_3 a0_4 a0_5) else (if (a1.size : Int) > 3 then (sheetgrid_Parse.j0 k a1 true a0_0 a0_1 a0_2 a0_3 a0_4 a0_5) else (if 1 < (a1.size : Int) then (sheetgrid_Parse.j0 k a1 ((bt a1 1) == 48) a0_0 a0_1 a0_2 a0_3 a0_4 a0_5) else (none)))) else (some (0, t174)))
theorem sheetgrid_Parse.mono_l : ∀ k, (∀ y0 y1 y2 y3 y4 y5 y6 y7, LeO (sheetgrid_Parse.j0 k y0 y1 y2 y3 y4 y5 y6 y7) (sheetgrid_Parse.j0 (k + 1) y0 y1 y2 y3 y4 y5 y6 y7)) ∧ (∀ y0 y1 y2 y3 y4 y5 y6 y7 y8, LeO (sheetgrid_Parse.l0 k y0 y1 y2 y3 y4 y5 y6 y7 y8) (sheetgrid_Parse.l0 (k + 1) y0 y1 y2 y3 y4 y5 y6 y7 y8)) ∧ (∀ y0 y1 y2 y3 y4 y5 y6 y7 y8, LeO (sheetgrid_Parse.l1 k y0 y1 y2 y3 y4 y5 y6 y7 y8) (sheetgrid_Parse.l1 (k + 1) y0 y1 y2 y3 y4 y5 y6 y7 y8))
  | 0 => ⟨fun _ _ _ _ _ _ _ _ r h => by simp [sheetgrid_Parse.j0] at h, fun _ _ _ _ _ _ _ _ _ r h => by simp [sheetgrid_Parse.l0] at h, fun _ _ _ _ _ _ _ _ _ r h => by simp [sheetgrid_Parse.l1] at h⟩
  | k + 1 => by
    obtain ⟨ih0, ih1, ih2⟩ := sheetgrid_Parse.mono_l k
    refine ⟨?_, ?_, ?_⟩
    · intro y0 y1 y2 y3 y4 y5 y6 y7
      unfold sheetgrid_Parse.j0
      repeat' first
      | (with_reducible exact ih0 _ _ _ _ _ _ _ _)
      | (with_reducible exact ih1 _ _ _ _ _ _ _ _ _)
      | (with_reducible exact ih2 _ _ _ _ _ _ _ _ _)
      | (with_reducible exact sheetgrid_Check.mono _ _ _ _ _ _ _)
      | (with_reducible exact LeO.refl _)
      | (with_reducible exact LeO.none _)
      | (with_reducible refine LeO.ite ?_ ?_)
      | (with_reducible refine LeO.bind ?_ (fun _ => ?_))
      | exact ih0 _ _ _ _ _ _ _ _
      | exact ih1 _ _ _ _ _ _ _ _ _
      | exact ih2 _ _ _ _ _ _ _ _ _
      | exact sheetgrid_Check.mono _ _ _ _ _ _ _
      | exact LeO.none _
      | refine LeO.ite ?_ ?_
      | refine LeO.bind ?_ (fun _ => ?_)
    · intro y0 y1 y2 y3 y4 y5 y6 y7 y8
      unfold sheetgrid_Parse.l0
      repeat' first
      | (with_reducible exact ih0 _ _ _ _ _ _ _ _)
      | (with_reducible exact ih1 _ _ _ _ _ _ _ _ _)
      | (with_reducible exact ih2 _ _ _ _ _ _ _ _ _)
      | (with_reducible exact sheetgrid_Check.mono _ _ _ _ _ _ _)
      | (with_reducible exact LeO.refl _)
      | (with_reducible exact LeO.none _)
      | (with_reducible refine LeO.ite ?_ ?_)
      | (with_reducible refine LeO.bind ?_ (fun _ => ?_))
      | exact ih0 _ _ _ _ _ _ _ _
      | exact ih1 _ _ _ _ _ _ _ _ _
      | exact ih2 _ _ _ _ _ _ _ _ _
      | exact sheetgrid_Check.mono _ _ _ _ _ _ _
      | exact LeO.none _
      | refine LeO.ite ?_ ?_
      | refine LeO.bind ?_ (fun _ => ?_)
    · intro y0 y1 y2 y3 y4 y5 y6 y7 y8
      unfold sheetgrid_Parse.l1
      repeat' first
      | (with_reducible exact ih0 _ _ _ _ _ _ _ _)
      | (with_reducible exact ih1 _ _ _ _ _ _ _ _ _)
      | (with_reducible exact ih2 _ _ _ _ _ _ _ _ _)
      | (with_reducible exact sheetgrid_Check.mono _ _ _ _ _ _ _)
      | (with_reducible exact LeO.refl _)
      | (with_reducible exact LeO.none _)
      | (with_reducible refine LeO.ite ?_ ?_)
      | (with_reducible refine LeO.bind ?_ (fun _ => ?_))
      | exact ih0 _ _ _ _ _ _ _ _
      | exact ih1 _ _ _ _ _ _ _ _ _
      | exact ih2 _ _ _ _ _ _ _ _ _
      | exact sheetgrid_Check.mono _ _ _ _ _ _ _
      | exact LeO.none _
      | refine LeO.ite ?_ ?_
      | refine LeO.bind ?_ (fun _ => ?_)
theorem sheetgrid_Parse.mono : ∀ a0 a1 a2 a3 a4 a5 a6 k, LeO (sheetgrid_Parse.f k a0 a1 a2 a3 a4 a5 a6) (sheetgrid_Parse.f (k + 1) a0 a1 a2 a3 a4 a5 a6) := by
  intro a0 a1 a2 a3 a4 a5 a6 k
  obtain ⟨ih0, ih1, ih2⟩ := sheetgrid_Parse.mono_l k
  unfold sheetgrid_Parse.f
  repeat' first
      | (with_reducible exact ih0 _ _ _ _ _ _ _ _)
      | (with_reducible exact ih1 _ _ _ _ _ _ _ _ _)
      | (with_reducible exact ih2 _ _ _ _ _ _ _ _ _)
      | (with_reducible exact sheetgrid_Check.mono _ _ _ _ _ _ _)
      | (with_reducible exact LeO.refl _)
      | (with_reducible exact LeO.none _)
      | (with_reducible refine LeO.ite ?_ ?_)
      | (with_reducible refine LeO.bind ?_ (fun _ => ?_))
      | exact ih0 _ _ _ _ _ _ _ _
      | exact ih1 _ _ _ _ _ _ _ _ _
      | exact ih2 _ _ _ _ _ _ _ _ _
      | exact sheetgrid_Check.mono _ _ _ _ _ _ _
      | exact LeO.none _
      | refine LeO.ite ?_ ?_
      | refine LeO.bind ?_ (fun _ => ?_)
set_option maxHeartbeats 8000000 in
set_option maxRecDepth 100000 in
theorem sheetgrid_Parse.calls (k : Nat) (a0_0 : Int) (a0_1 : Int) (a0_2 : Int) (a0_3 : Int) (a0_4 : Int) (a0_5 : Int) (a1 : ByteArray) (r1 : Int) (r2 : Int) (w : World) (h : sheetgrid_Parse.f k a0_0 a0_1 a0_2 a0_3 a0_4 a0_5 a1 = some (r1, r2)) :
    Calls Try.prog 24 #[.agg #[.int .i64 a0_0, .int .i64 a0_1, .int .i64 a0_2, .int .i64 a0_3, .int .i64 a0_4, .int .i64 a0_5], .string a1] w fun e w' => e = .returned (.tuple #[.int .i64 r1, .int .i64 r2]) ∧ Below w.heap.size w w' := by
  have hu25 := Try.underlying25
  have HB := Aside0.mk (Below.refl w.heap.size w)
  have H : ((sheetgrid_Check.f k a0_0 a0_1 a0_2 a0_3 a0_4 a0_5).bind fun t174 => (if t174 = 0 then (if (a1.size : Int) < 2 then (sheetgrid_Parse.j0 k a1 true a0_0 a0_1 a0_2 a0_3 a0_4 a0_5) else (if (a1.size : Int) > 3 then (sheetgrid_Parse.j0 k a1 true a0_0 a0_1 a0_2 a0_3 a0_4 a0_5) else (if 1 < (a1.size : Int) then (sheetgrid_Parse.j0 k a1 ((bt a1 1) == 48) a0_0 a0_1 a0_2 a0_3 a0_4 a0_5) else (none)))) else (some (0, t174)))) = some (r1, r2) := h
  clear h
  replace H := Option.bind_eq_some_iff.mp H
  obtain ⟨t174, A30, H⟩ := H
  replace H : (if t174 = 0 then (if (a1.size : Int) < 2 then (sheetgrid_Parse.j0 k a1 true a0_0 a0_1 a0_2 a0_3 a0_4 a0_5) else (if (a1.size : Int) > 3 then (sheetgrid_Parse.j0 k a1 true a0_0 a0_1 a0_2 a0_3 a0_4 a0_5) else (if 1 < (a1.size : Int) then (sheetgrid_Parse.j0 k a1 ((bt a1 1) == 48) a0_0 a0_1 a0_2 a0_3 a0_4 a0_5) else (none)))) else (some (0, t174))) = some (r1, r2) := H
  have A3 := Aside0.mk A30
  clear A30
  by_cases c4 : t174 = 0
  · rw [if_pos c4] at H
    have c4b0 : (t174 == 0) = true := beq_iff_eq.mpr c4
    have c4b1 : (t174 != 0) = false := bne_eq_false_iff_eq.mpr c4
    clear c4
    have HC5 := Aside0.mk H
    clear H
    go_enter Try.func24, Try.ntmps24
    go_upto_region 4 with (first | ((with_reducible refine gate_dst (N := 2) rfl ?_); (try (refine gate_guard (by rfl) ?_; dsimp only)); refine box_event ?hg (N := 2) ?hd (cs := #[.int .i64 a0_0, .int .i64 a0_1, .int .i64 a0_2, .int .i64 a0_3, .int .i64 a0_4, .int .i64 a0_5]) (t := 25) ?hr ?_; (case hd => rfl); (case hg => rfl); (case hr => first | (go_simp; done) | (go_simp; rfl)); intro gb173 hg w6 hbox hb; have n0_ := Aside0.mk (below_step (by repeat (first | (with_reducible first | exact HB.out | apply below_alloc | apply pw_below_drewN | apply below_drew1) | exact HB.out)) hb); have n1_ := Aside0.mk (hbox); have n2_ := Aside0.mk ((by rw [hg]; exact (below_size (by repeat (first | (with_reducible first | exact HB.out | apply below_alloc | apply pw_below_drewN | apply below_drew1) | exact HB.out))) : w.heap.size ≤ gb173)); have n3_ := Aside0.mk ((by rw [hg]; exact (below_size (by repeat (first | (with_reducible first | exact HB.out | apply below_alloc | apply pw_below_drewN | apply below_drew1) | exact HB.out))) : w.heap.size ≤ gb173)); clear HB; have HB := n0_; have BK173 := n1_; have GW173 := n2_; have GE173 := n3_; clear n0_ n1_ n2_ n3_; clear hb hbox hg; have hcz7_0 : w6.cell? ⟨gb173, 0, none⟩ = some (.int .i64 a0_0) := (blk_cell BK173.out 0).trans rfl; have hcz7_1 : w6.cell? ⟨gb173, 1, none⟩ = some (.int .i64 a0_1) := (blk_cell BK173.out 1).trans rfl; have hcz7_2 : w6.cell? ⟨gb173, 2, none⟩ = some (.int .i64 a0_2) := (blk_cell BK173.out 2).trans rfl; have hcz7_3 : w6.cell? ⟨gb173, 3, none⟩ = some (.int .i64 a0_3) := (blk_cell BK173.out 3).trans rfl; have hcz7_4 : w6.cell? ⟨gb173, 4, none⟩ = some (.int .i64 a0_4) := (blk_cell BK173.out 4).trans rfl; have hcz7_5 : w6.cell? ⟨gb173, 5, none⟩ = some (.int .i64 a0_5) := (blk_cell BK173.out 5).trans rfl; have hfz7_0 := blk_frozen BK173.out 0; have hfz7_1 := blk_frozen BK173.out 1; have hfz7_2 := blk_frozen BK173.out 2; have hfz7_3 := blk_frozen BK173.out 3; have hfz7_4 := blk_frozen BK173.out 4; have hfz7_5 := blk_frozen BK173.out 5) | ((with_reducible refine gate_callee (f := 13) rfl ?_); refine goesL_ (some 12) rfl rfl Try.func13 (by kernel_rfl) rfl #[.agg #[.int .i64 a0_0, .int .i64 a0_1, .int .i64 a0_2, .int .i64 a0_3, .int .i64 a0_4, .int .i64 a0_5]] rfl (by (try simp only [List.map_toArray, List.map_cons, List.map_nil]); first | done | rfl | (simp only [List.length_drop, List.length_take]; rfl)) ?_; (with_reducible refine (sheetgrid_Check.calls k a0_0 a0_1 a0_2 a0_3 a0_4 a0_5 t174 _ A3.out).mono ?_); rintro e w8 ⟨rfl, hb⟩; refine ⟨_, rfl, ?_⟩; have n0_ := Aside0.mk (blk_below (g := gb173) (o := .cells #[.int .i64 a0_0, .int .i64 a0_1, .int .i64 a0_2, .int .i64 a0_3, .int .i64 a0_4, .int .i64 a0_5] 25 (0, 0)) (by (with_reducible repeat (first | refine blk_drewN ?_ _ | refine blk_drew ?_ | refine blk_alloc ?_ _)); exact BK173.out) hb); have n1_ := Aside0.mk (below_step (by repeat (first | (with_reducible first | exact HB.out | apply below_alloc | apply pw_below_drewN | apply below_drew1 | refine below_set ?_ GE173.out) | exact HB.out)) hb); clear BK173; clear HB; have BK173 := n0_; have HB := n1_; clear n0_ n1_; (try clear hb); (try clear hb2); (try clear hk); (try clear hi)))
    (try simp only [Act.put, List.setIfInBounds_toArray, List.set_cons_zero, List.set_cons_succ])
    go_cut [28] (fun v28 wc => ∃ (kq : Nat) (x28_4 : Bool), v28 = .bool x28_4 ∧ Aside0 (sheetgrid_Parse.j0 kq a1 x28_4 a0_0 a0_1 a0_2 a0_3 a0_4 a0_5 = some (r1, r2)) ∧ Aside0 (kq ≤ k) ∧ Aside0 (wc.heap[gb173]? = some (.cells #[.int .i64 a0_0, .int .i64 a0_1, .int .i64 a0_2, .int .i64 a0_3, .int .i64 a0_4, .int .i64 a0_5] 25 (0, 0))) ∧ Aside0 (Below w.heap.size w wc))
    case first =>
      have H := HC5.out
      clear HC5
      by_cases c9 : (a1.size : Int) < 2
      · rw [if_pos c9] at H
        have c9b0 : decide ((a1.size : Int) < 2) = true := decide_eq_true c9
        have c9b1 : decide (a1.size < 2) = true := decide_eq_true (by omega)
        clear c9
        (first | rw [c9b0] | (simp only [i64_w, i32_w]; rw [c9b0]) | skip)
        have H' := Aside0.mk H
        clear H
        go_wp2
        go_meet
        case rel => exact ⟨_, (true), (by first | rfl | (simp; done) | (simp [*]; done)), H', ⟨by first | omega | exact Nat.le_refl _⟩, ⟨by (with_reducible repeat (first | refine blk_drewN ?_ _ | refine blk_drew ?_ | refine blk_alloc ?_ _)); exact BK173.out⟩, ⟨by repeat (first | (with_reducible first | exact HB.out | apply below_alloc | apply pw_below_drewN | apply below_drew1 | refine below_set ?_ GE173.out) | exact HB.out)⟩⟩
      · rw [if_neg c9] at H
        have c9b0 : decide ((a1.size : Int) < 2) = false := decide_eq_false c9
        have c9b1 : decide (a1.size < 2) = false := decide_eq_false (by omega)
        clear c9
        (first | rw [c9b0] | (simp only [i64_w, i32_w]; rw [c9b0]) | skip)
        by_cases c10 : (a1.size : Int) > 3
        · rw [if_pos c10] at H
          have c10b0 : decide (3 < (a1.size : Int)) = true := decide_eq_true c10
          have c10b1 : decide (3 < a1.size) = true := decide_eq_true (by omega)
          clear c10
          have H' := Aside0.mk H
          clear H
          go_wp2
          go_meet
          case rel => exact ⟨_, (true), (by first | rfl | (simp; done) | (simp [*]; done)), H', ⟨by first | omega | exact Nat.le_refl _⟩, ⟨by (with_reducible repeat (first | refine blk_drewN ?_ _ | refine blk_drew ?_ | refine blk_alloc ?_ _)); exact BK173.out⟩, ⟨by repeat (first | (with_reducible first | exact HB.out | apply below_alloc | apply pw_below_drewN | apply below_drew1 | refine below_set ?_ GE173.out) | exact HB.out)⟩⟩
        · rw [if_neg c10] at H
          have c10b0 : decide (3 < (a1.size : Int)) = false := decide_eq_false c10
          have c10b1 : decide (3 < a1.size) = false := decide_eq_false (by omega)
          clear c10
          by_cases c11 : 1 < (a1.size : Int)
          · rw [if_pos c11] at H
            have c11b0 : decide (1 < (a1.size : Int)) = true := decide_eq_true c11
            have c11b1 : decide (1 < a1.size) = true := decide_eq_true (by omega)
            clear c11
            have H' := Aside0.mk H
            clear H
            have p12 : 0 ≤ (1 : Int) := (by omega)
            have q12 : 1 < a1.size := (by have : (1 : Int) < (a1.size : Int) := of_decide_eq_true (by first | (with_reducible assumption) | assumption); omega)
            have hx12 : ∀ h : 1 < a1.size, ((a1[1]'h).toNat : Int) = bt a1 1 := bt_at a1 1
            clear p12
            have qi12 : (1 < (a1.size : Int)) = True := eq_true (of_decide_eq_true (by first | (with_reducible assumption) | assumption))
            replace q12 := eq_true q12
            go_wp2
            go_meet
            case rel => exact ⟨_, (((bt a1 1) == 48)), (by first | rfl | (simp; done) | (simp [*]; done)), H', ⟨by first | omega | exact Nat.le_refl _⟩, ⟨by (with_reducible repeat (first | refine blk_drewN ?_ _ | refine blk_drew ?_ | refine blk_alloc ?_ _)); exact BK173.out⟩, ⟨by repeat (first | (with_reducible first | exact HB.out | apply below_alloc | apply pw_below_drewN | apply below_drew1 | refine below_set ?_ GE173.out) | exact HB.out)⟩⟩
          · rw [if_neg c11] at H
            exact absurd H (by simp)
    case rest =>
      clear HC5
      try clear c1
      try clear p1
      try clear q1
      try clear hx1
      try clear qi1
      try clear c2
      try clear p2
      try clear c4
      try clear c4b0
      try clear c4b1
      try clear c9
      try clear c9b0
      try clear c9b1
      try clear c10
      try clear c10b0
      try clear c10b1
      try clear c11
      try clear c11b0
      try clear c11b1
      try clear p12
      try clear q12
      try clear hx12
      try clear qi12
      try clear hcz7_0
      try clear hcz7_1
      try clear hcz7_2
      try clear hcz7_3
      try clear hcz7_4
      try clear hcz7_5
      try clear hfz7_0
      try clear hfz7_1
      try clear hfz7_2
      try clear hfz7_3
      try clear hfz7_4
      try clear hfz7_5
      try clear p12
      try clear q12
      obtain ⟨kq, x28_4, rfl, HA, HJ4, BK173, HB⟩ := hcut
      cases kq with
      | zero => exact absurd HA.out (by simp [sheetgrid_Parse.j0])
      | succ kj4 =>
        have H := HA.out
        clear HA
        simp only [sheetgrid_Parse.j0] at H
        by_cases c13 : x28_4 = true
        · subst c13
          have H1 : (some (0, 20)) = some (r1, r2) := by rw [if_pos rfl] at H; exact H
          clear H
          have H := H1
          clear H1
          simp only [Option.some.injEq, Prod.mk.injEq] at H
          obtain ⟨rfl, rfl⟩ := H
          go_wp2
          go_ret2
          exact ⟨by first | rfl | (simp [errW_none, errW_some] <;> rfl) | (simp [*, errW_none, errW_some] <;> rfl), by repeat (first | (with_reducible first | exact HB.out | apply below_alloc | apply pw_below_drewN | apply below_drew1 | refine below_set ?_ GE173.out) | exact HB.out)⟩
        · replace c13 := Bool.eq_false_iff.mpr c13
          subst c13
          have H1 : (sheetgrid_Parse.l0 kj4 a1 0 1 a0_0 a0_1 a0_2 a0_3 a0_4 a0_5) = some (r1, r2) := by rw [if_neg (show ¬ (false = true) by decide)] at H; exact H
          clear H
          have H := H1
          clear H1
          have H' := Aside0.mk H
          clear H
          go_wp2
          go_loopg [7, 8] kj4 (fun kq v7 v8 w' => ∃ (x7_2 : Int) (x8_2 : Int), v7 = .int .i64 x7_2 ∧ v8 = .int .i64 x8_2 ∧ Aside0 (sheetgrid_Parse.l0 kq a1 x7_2 x8_2 a0_0 a0_1 a0_2 a0_3 a0_4 a0_5 = some (r1, r2)) ∧ Aside0 (kq ≤ kj4) ∧ Aside0 (w'.heap[gb173]? = some (.cells #[.int .i64 a0_0, .int .i64 a0_1, .int .i64 a0_2, .int .i64 a0_3, .int .i64 a0_4, .int .i64 a0_5] 25 (0, 0))) ∧ Aside0 (Below w.heap.size w w'))
          case atStart => exact ⟨(0), (1), (by first | rfl | (simp; done) | (simp [*]; done)), (by first | rfl | (simp; done) | (simp [*]; done)), H', ⟨Nat.le_refl _⟩, ⟨by (with_reducible repeat (first | refine blk_drewN ?_ _ | refine blk_drew ?_ | refine blk_alloc ?_ _)); exact BK173.out⟩, ⟨by repeat (first | (with_reducible first | exact HB.out | apply below_alloc | apply pw_below_drewN | apply below_drew1 | refine below_set ?_ GE173.out) | exact HB.out)⟩⟩
          case round =>
            clear H'
            try clear c1
            try clear p1
            try clear q1
            try clear hx1
            try clear qi1
            try clear c2
            try clear p2
            try clear c4
            try clear c4b0
            try clear c4b1
            try clear c9
            try clear c9b0
            try clear c9b1
            try clear c10
            try clear c10b0
            try clear c10b1
            try clear c11
            try clear c11b0
            try clear c11b1
            try clear p12
            try clear q12
            try clear hx12
            try clear qi12
            try clear c13
            try clear hcz7_0
            try clear hcz7_1
            try clear hcz7_2
            try clear hcz7_3
            try clear hcz7_4
            try clear hcz7_5
            try clear hfz7_0
            try clear hfz7_1
            try clear hfz7_2
            try clear hfz7_3
            try clear hfz7_4
            try clear hfz7_5
            try clear p1
            try clear p12
            try clear p2
            try clear q1
            try clear q12
            obtain ⟨x7_2, x8_2, rfl, rfl, HA, HK2, BK173, HB⟩ := hrel
            cases gk with
            | zero => exact absurd HA.out (by simp [sheetgrid_Parse.l0])
            | succ k2 =>
              have H := HA.out
              clear HA
              simp only [sheetgrid_Parse.l0] at H
              by_cases c14 : x8_2 < (a1.size : Int)
              · rw [if_pos c14] at H
                have c14b0 : decide (x8_2 < (a1.size : Int)) = true := decide_eq_true c14
                clear c14
                by_cases c15 : 0 ≤ x8_2
                · rw [if_pos c15] at H
                  have c15b0 : decide (0 ≤ x8_2) = true := decide_eq_true c15
                  clear c15
                  by_cases c17 : (bt a1 x8_2) < 48
                  · rw [if_pos c17] at H
                    have c17b0 : decide ((bt a1 x8_2) < 48) = true := decide_eq_true c17
                    clear c17
                    simp only [Option.some.injEq, Prod.mk.injEq] at H
                    obtain ⟨rfl, rfl⟩ := H
                    have p16 : 0 ≤ (x8_2 : Int) := of_decide_eq_true (by first | (with_reducible assumption) | assumption)
                    have q16 : x8_2 < (a1.size : Int) := of_decide_eq_true (by first | (with_reducible assumption) | assumption)
                    have hx16 := bt_at a1 x8_2
                    replace p16 := eq_true p16
                    replace q16 := eq_true q16
                    go_wp2
                    go_ret2
                    exact ⟨by first | rfl | (simp [errW_none, errW_some] <;> rfl) | (simp [*, errW_none, errW_some] <;> rfl), by repeat (first | (with_reducible first | exact HB.out | apply below_alloc | apply pw_below_drewN | apply below_drew1 | refine below_set ?_ GE173.out) | exact HB.out)⟩
                  · rw [if_neg c17] at H
                    have c17b0 : decide ((bt a1 x8_2) < 48) = false := decide_eq_false c17
                    clear c17
                    by_cases c19 : (bt a1 x8_2) > 57
                    · rw [if_pos c19] at H
                      have c19b0 : decide (57 < (bt a1 x8_2)) = true := decide_eq_true c19
                      clear c19
                      simp only [Option.some.injEq, Prod.mk.injEq] at H
                      obtain ⟨rfl, rfl⟩ := H
                      have p16 : 0 ≤ (x8_2 : Int) := of_decide_eq_true (by first | (with_reducible assumption) | assumption)
                      have q16 : x8_2 < (a1.size : Int) := of_decide_eq_true (by first | (with_reducible assumption) | assumption)
                      have hx16 := bt_at a1 x8_2
                      replace p16 := eq_true p16
                      replace q16 := eq_true q16
                      have p18 : 0 ≤ (x8_2 : Int) := of_decide_eq_true (by first | (with_reducible assumption) | assumption)
                      have q18 : x8_2 < (a1.size : Int) := of_decide_eq_true (by first | (with_reducible assumption) | assumption)
                      have hx18 := bt_at a1 x8_2
                      replace p18 := eq_true p18
                      replace q18 := eq_true q18
                      go_wp2
                      go_ret2
                      exact ⟨by first | rfl | (simp [errW_none, errW_some] <;> rfl) | (simp [*, errW_none, errW_some] <;> rfl), by repeat (first | (with_reducible first | exact HB.out | apply below_alloc | apply pw_below_drewN | apply below_drew1 | refine below_set ?_ GE173.out) | exact HB.out)⟩
                    · rw [if_neg c19] at H
                      have c19b0 : decide (57 < (bt a1 x8_2)) = false := decide_eq_false c19
                      clear c19
                      have H' := Aside0.mk H
                      clear H
                      have p16 : 0 ≤ (x8_2 : Int) := of_decide_eq_true (by first | (with_reducible assumption) | assumption)
                      have q16 : x8_2 < (a1.size : Int) := of_decide_eq_true (by first | (with_reducible assumption) | assumption)
                      have hx16 := bt_at a1 x8_2
                      replace p16 := eq_true p16
                      replace q16 := eq_true q16
                      have p18 : 0 ≤ (x8_2 : Int) := of_decide_eq_true (by first | (with_reducible assumption) | assumption)
                      have q18 : x8_2 < (a1.size : Int) := of_decide_eq_true (by first | (with_reducible assumption) | assumption)
                      have hx18 := bt_at a1 x8_2
                      replace p18 := eq_true p18
                      replace q18 := eq_true q18
                      have p20 : 0 ≤ (x8_2 : Int) := of_decide_eq_true (by first | (with_reducible assumption) | assumption)
                      have q20 : x8_2 < (a1.size : Int) := of_decide_eq_true (by first | (with_reducible assumption) | assumption)
                      have hx20 := bt_at a1 x8_2
                      replace p20 := eq_true p20
                      replace q20 := eq_true q20
                      go_wp2
                      go_roundg k2
                      case measure => have := HJ4.out; have := HK2.out; omega
                      case rel => exact ⟨(wrap64 ((wrap64 (10 * x7_2)) + (((bt a1 x8_2) - 48) % 256))), (wrap64 (x8_2 + 1)), (by first | rfl | (simp; done) | (simp [*]; done)), (by first | rfl | (simp; done) | (simp [*]; done)), H', ⟨by have := HJ4.out; have := HK2.out; omega⟩, ⟨by (with_reducible repeat (first | refine blk_drewN ?_ _ | refine blk_drew ?_ | refine blk_alloc ?_ _)); exact BK173.out⟩, ⟨by repeat (first | (with_reducible first | exact HB.out | apply below_alloc | apply pw_below_drewN | apply below_drew1 | refine below_set ?_ GE173.out) | exact HB.out)⟩⟩
                · rw [if_neg c15] at H
                  exact absurd H (by simp)
              · rw [if_neg c14] at H
                have c14b0 : decide (x8_2 < (a1.size : Int)) = false := decide_eq_false c14
                clear c14
                replace H := Option.bind_eq_some_iff.mp H
                obtain ⟨_, A210, H⟩ := H
                replace H : (sheetgrid_Parse.l1 k2 a1 x7_2 0 a0_0 a0_1 a0_2 a0_3 a0_4 a0_5) = some (r1, r2) := H
                have A21 := Aside0.mk A210
                clear A210
                have H' := Aside0.mk H
                clear H
                go_wp2_with (first | ((with_reducible refine gate_callee (f := 33) rfl ?_); refine goesL_ (some 53) rfl rfl Try.func33 (by kernel_rfl) rfl #[] rfl (by (try simp only [List.map_toArray, List.map_cons, List.map_nil]); first | done | rfl | (simp only [List.length_drop, List.length_take]; rfl)) ?_; (with_reducible refine (sheetgrid_letters.calls   _ A21.out).mono ?_); rintro e w22 ⟨rfl, hb⟩; refine ⟨_, rfl, ?_⟩; have n0_ := Aside0.mk (blk_below (g := gb173) (o := .cells #[.int .i64 a0_0, .int .i64 a0_1, .int .i64 a0_2, .int .i64 a0_3, .int .i64 a0_4, .int .i64 a0_5] 25 (0, 0)) (by (with_reducible repeat (first | refine blk_drewN ?_ _ | refine blk_drew ?_ | refine blk_alloc ?_ _)); exact BK173.out) hb); have n1_ := Aside0.mk (below_step (by repeat (first | (with_reducible first | exact HB.out | apply below_alloc | apply pw_below_drewN | apply below_drew1 | refine below_set ?_ GE173.out) | exact HB.out)) hb); clear BK173; clear HB; have BK173 := n0_; have HB := n1_; clear n0_ n1_; (try clear hb); (try clear hb2); (try clear hk); (try clear hi)))
                go_loopg [54] k2 (fun kq v54 w' => ∃ (x54_3 : Int), v54 = .int .i64 x54_3 ∧ Aside0 (sheetgrid_Parse.l1 kq a1 x7_2 x54_3 a0_0 a0_1 a0_2 a0_3 a0_4 a0_5 = some (r1, r2)) ∧ Aside0 (kq ≤ k2) ∧ Aside0 (w'.heap[gb173]? = some (.cells #[.int .i64 a0_0, .int .i64 a0_1, .int .i64 a0_2, .int .i64 a0_3, .int .i64 a0_4, .int .i64 a0_5] 25 (0, 0))) ∧ Aside0 (Below w.heap.size w w'))
                case atStart => exact ⟨(0), (by first | rfl | (simp; done) | (simp [*]; done)), H', ⟨Nat.le_refl _⟩, ⟨by (with_reducible repeat (first | refine blk_drewN ?_ _ | refine blk_drew ?_ | refine blk_alloc ?_ _)); exact BK173.out⟩, ⟨by repeat (first | (with_reducible first | exact HB.out | apply below_alloc | apply pw_below_drewN | apply below_drew1 | refine below_set ?_ GE173.out) | exact HB.out)⟩⟩
                case round =>
                  clear H'
                  try clear c1
                  try clear p1
                  try clear q1
                  try clear hx1
                  try clear qi1
                  try clear c2
                  try clear p2
                  try clear q2
                  try clear hx2
                  try clear c3
                  try clear c4
                  try clear c4b0
                  try clear c4b1
                  try clear p6
                  try clear c9
                  try clear c9b0
                  try clear c9b1
                  try clear c10
                  try clear c10b0
                  try clear c10b1
                  try clear c11
                  try clear c11b0
                  try clear c11b1
                  try clear p12
                  try clear q12
                  try clear hx12
                  try clear qi12
                  try clear c13
                  try clear c14
                  try clear c14b0
                  try clear c15
                  try clear c15b0
                  try clear p16
                  try clear q16
                  try clear hx16
                  try clear c17
                  try clear c17b0
                  try clear p18
                  try clear q18
                  try clear hx18
                  try clear c19
                  try clear c19b0
                  try clear p20
                  try clear q20
                  try clear hx20
                  try clear hcz7_0
                  try clear hcz7_1
                  try clear hcz7_2
                  try clear hcz7_3
                  try clear hcz7_4
                  try clear hcz7_5
                  try clear hfz7_0
                  try clear hfz7_1
                  try clear hfz7_2
                  try clear hfz7_3
                  try clear hfz7_4
                  try clear hfz7_5
                  try clear p1
                  try clear p12
                  try clear p16
                  try clear p18
                  try clear p2
                  try clear p20
                  try clear q1
                  try clear q12
                  try clear q16
                  try clear q18
                  try clear q20
                  obtain ⟨x54_3, rfl, HA, HK3, BK173, HB⟩ := hrel
                  cases gk with
                  | zero => exact absurd HA.out (by simp [sheetgrid_Parse.l1])
                  | succ k3 =>
                    have H := HA.out
                    clear HA
                    simp only [sheetgrid_Parse.l1] at H
                    by_cases c23 : x54_3 < 16
                    · rw [if_pos c23] at H
                      have c23b0 : decide (x54_3 < 16) = true := decide_eq_true c23
                      clear c23
                      by_cases c24 : 0 ≤ x54_3
                      · rw [if_pos c24] at H
                        have c24b0 : decide (0 ≤ x54_3) = true := decide_eq_true c24
                        clear c24
                        by_cases c26 : 0 < (a1.size : Int)
                        · rw [if_pos c26] at H
                          have c26b0 : decide (0 < (a1.size : Int)) = true := decide_eq_true c26
                          have c26b1 : decide (0 < a1.size) = true := decide_eq_true (by omega)
                          clear c26
                          by_cases c28 : (rd [65, 66, 67, 68, 69, 70, 71, 72, 73, 74, 75, 76, 77, 78, 79, 80] x54_3) = (bt a1 0)
                          · rw [if_pos c28] at H
                            have c28b0 : ((rd [65, 66, 67, 68, 69, 70, 71, 72, 73, 74, 75, 76, 77, 78, 79, 80] x54_3) == (bt a1 0)) = true := beq_iff_eq.mpr c28
                            have c28b1 : ((rd [65, 66, 67, 68, 69, 70, 71, 72, 73, 74, 75, 76, 77, 78, 79, 80] x54_3) != (bt a1 0)) = false := bne_eq_false_iff_eq.mpr c28
                            clear c28
                            by_cases c29 : x54_3 ≥ a0_4
                            · rw [if_pos c29] at H
                              have c29b0 : decide (a0_4 ≤ x54_3) = true := decide_eq_true c29
                              clear c29
                              simp only [Option.some.injEq, Prod.mk.injEq] at H
                              obtain ⟨rfl, rfl⟩ := H
                              have p25 : 0 ≤ (x54_3 : Int) := of_decide_eq_true (by first | (with_reducible assumption) | assumption)
                              have q25 : x54_3 < (16 : Int) := of_decide_eq_true (by first | (with_reducible assumption) | assumption)
                              have hx25 : ∀ W_ : World, (Instr.index 58 (.agg #[.int .u8 65, .int .u8 66, .int .u8 67, .int .u8 68, .int .u8 69, .int .u8 70, .int .u8 71, .int .u8 72, .int .u8 73, .int .u8 74, .int .u8 75, .int .u8 76, .int .u8 77, .int .u8 78, .int .u8 79, .int .u8 80]) (.int .i64 x54_3)).run Try.prog W_ = .ok (.int .u8 (rd [65, 66, 67, 68, 69, 70, 71, 72, 73, 74, 75, 76, 77, 78, 79, 80] x54_3)) W_ := (by intro W_; generalize x54_3 = jj_ at p25 q25 ⊢; rcases (show jj_ = 0 ∨ jj_ = 1 ∨ jj_ = 2 ∨ jj_ = 3 ∨ jj_ = 4 ∨ jj_ = 5 ∨ jj_ = 6 ∨ jj_ = 7 ∨ jj_ = 8 ∨ jj_ = 9 ∨ jj_ = 10 ∨ jj_ = 11 ∨ jj_ = 12 ∨ jj_ = 13 ∨ jj_ = 14 ∨ jj_ = 15 by omega) with hj_ | hj_ | hj_ | hj_ | hj_ | hj_ | hj_ | hj_ | hj_ | hj_ | hj_ | hj_ | hj_ | hj_ | hj_ | hj_ <;> subst hj_ <;> (show _ = _; kernel_rfl))
                              replace p25 := eq_true p25
                              replace q25 := eq_true q25
                              have p27 : 0 ≤ (0 : Int) := (by omega)
                              have q27 : 0 < a1.size := (by have : (0 : Int) < (a1.size : Int) := of_decide_eq_true (by first | (with_reducible assumption) | assumption); omega)
                              have hx27 : ∀ h : 0 < a1.size, ((a1[0]'h).toNat : Int) = bt a1 0 := bt_at a1 0
                              clear p27
                              have qi27 : (0 < (a1.size : Int)) = True := eq_true (of_decide_eq_true (by first | (with_reducible assumption) | assumption))
                              replace q27 := eq_true q27
                              have hcz30_0 : wr.cell? ⟨gb173, 0, none⟩ = some (.int .i64 a0_0) := (blk_cell BK173.out 0).trans rfl
                              have hcz30_1 : wr.cell? ⟨gb173, 1, none⟩ = some (.int .i64 a0_1) := (blk_cell BK173.out 1).trans rfl
                              have hcz30_2 : wr.cell? ⟨gb173, 2, none⟩ = some (.int .i64 a0_2) := (blk_cell BK173.out 2).trans rfl
                              have hcz30_3 : wr.cell? ⟨gb173, 3, none⟩ = some (.int .i64 a0_3) := (blk_cell BK173.out 3).trans rfl
                              have hcz30_4 : wr.cell? ⟨gb173, 4, none⟩ = some (.int .i64 a0_4) := (blk_cell BK173.out 4).trans rfl
                              have hcz30_5 : wr.cell? ⟨gb173, 5, none⟩ = some (.int .i64 a0_5) := (blk_cell BK173.out 5).trans rfl
                              have hfz30_0 := blk_frozen BK173.out 0
                              have hfz30_1 := blk_frozen BK173.out 1
                              have hfz30_2 := blk_frozen BK173.out 2
                              have hfz30_3 := blk_frozen BK173.out 3
                              have hfz30_4 := blk_frozen BK173.out 4
                              have hfz30_5 := blk_frozen BK173.out 5
                              go_wp2
                              go_ret2
                              exact ⟨by first | rfl | (simp [errW_none, errW_some] <;> rfl) | (simp [*, errW_none, errW_some] <;> rfl), by repeat (first | (with_reducible first | exact HB.out | apply below_alloc | apply pw_below_drewN | apply below_drew1 | refine below_set ?_ GE173.out) | exact HB.out)⟩
                            · rw [if_neg c29] at H
                              have c29b0 : decide (a0_4 ≤ x54_3) = false := decide_eq_false c29
                              clear c29
                              by_cases c31 : x7_2 > a0_5
                              · rw [if_pos c31] at H
                                have c31b0 : decide (a0_5 < x7_2) = true := decide_eq_true c31
                                clear c31
                                simp only [Option.some.injEq, Prod.mk.injEq] at H
                                obtain ⟨rfl, rfl⟩ := H
                                have p25 : 0 ≤ (x54_3 : Int) := of_decide_eq_true (by first | (with_reducible assumption) | assumption)
                                have q25 : x54_3 < (16 : Int) := of_decide_eq_true (by first | (with_reducible assumption) | assumption)
                                have hx25 : ∀ W_ : World, (Instr.index 58 (.agg #[.int .u8 65, .int .u8 66, .int .u8 67, .int .u8 68, .int .u8 69, .int .u8 70, .int .u8 71, .int .u8 72, .int .u8 73, .int .u8 74, .int .u8 75, .int .u8 76, .int .u8 77, .int .u8 78, .int .u8 79, .int .u8 80]) (.int .i64 x54_3)).run Try.prog W_ = .ok (.int .u8 (rd [65, 66, 67, 68, 69, 70, 71, 72, 73, 74, 75, 76, 77, 78, 79, 80] x54_3)) W_ := (by intro W_; generalize x54_3 = jj_ at p25 q25 ⊢; rcases (show jj_ = 0 ∨ jj_ = 1 ∨ jj_ = 2 ∨ jj_ = 3 ∨ jj_ = 4 ∨ jj_ = 5 ∨ jj_ = 6 ∨ jj_ = 7 ∨ jj_ = 8 ∨ jj_ = 9 ∨ jj_ = 10 ∨ jj_ = 11 ∨ jj_ = 12 ∨ jj_ = 13 ∨ jj_ = 14 ∨ jj_ = 15 by omega) with hj_ | hj_ | hj_ | hj_ | hj_ | hj_ | hj_ | hj_ | hj_ | hj_ | hj_ | hj_ | hj_ | hj_ | hj_ | hj_ <;> subst hj_ <;> (show _ = _; kernel_rfl))
                                replace p25 := eq_true p25
                                replace q25 := eq_true q25
                                have p27 : 0 ≤ (0 : Int) := (by omega)
                                have q27 : 0 < a1.size := (by have : (0 : Int) < (a1.size : Int) := of_decide_eq_true (by first | (with_reducible assumption) | assumption); omega)
                                have hx27 : ∀ h : 0 < a1.size, ((a1[0]'h).toNat : Int) = bt a1 0 := bt_at a1 0
                                clear p27
                                have qi27 : (0 < (a1.size : Int)) = True := eq_true (of_decide_eq_true (by first | (with_reducible assumption) | assumption))
                                replace q27 := eq_true q27
                                have hcz32_0 : wr.cell? ⟨gb173, 0, none⟩ = some (.int .i64 a0_0) := (blk_cell BK173.out 0).trans rfl
                                have hcz32_1 : wr.cell? ⟨gb173, 1, none⟩ = some (.int .i64 a0_1) := (blk_cell BK173.out 1).trans rfl
                                have hcz32_2 : wr.cell? ⟨gb173, 2, none⟩ = some (.int .i64 a0_2) := (blk_cell BK173.out 2).trans rfl
                                have hcz32_3 : wr.cell? ⟨gb173, 3, none⟩ = some (.int .i64 a0_3) := (blk_cell BK173.out 3).trans rfl
                                have hcz32_4 : wr.cell? ⟨gb173, 4, none⟩ = some (.int .i64 a0_4) := (blk_cell BK173.out 4).trans rfl
                                have hcz32_5 : wr.cell? ⟨gb173, 5, none⟩ = some (.int .i64 a0_5) := (blk_cell BK173.out 5).trans rfl
                                have hfz32_0 := blk_frozen BK173.out 0
                                have hfz32_1 := blk_frozen BK173.out 1
                                have hfz32_2 := blk_frozen BK173.out 2
                                have hfz32_3 := blk_frozen BK173.out 3
                                have hfz32_4 := blk_frozen BK173.out 4
                                have hfz32_5 := blk_frozen BK173.out 5
                                go_wp2
                                go_ret2
                                exact ⟨by first | rfl | (simp [errW_none, errW_some] <;> rfl) | (simp [*, errW_none, errW_some] <;> rfl), by repeat (first | (with_reducible first | exact HB.out | apply below_alloc | apply pw_below_drewN | apply below_drew1 | refine below_set ?_ GE173.out) | exact HB.out)⟩
                              · rw [if_neg c31] at H
                                have c31b0 : decide (a0_5 < x7_2) = false := decide_eq_false c31
                                clear c31
                                simp only [Option.some.injEq, Prod.mk.injEq] at H
                                obtain ⟨rfl, rfl⟩ := H
                                have p25 : 0 ≤ (x54_3 : Int) := of_decide_eq_true (by first | (with_reducible assumption) | assumption)
                                have q25 : x54_3 < (16 : Int) := of_decide_eq_true (by first | (with_reducible assumption) | assumption)
                                have hx25 : ∀ W_ : World, (Instr.index 58 (.agg #[.int .u8 65, .int .u8 66, .int .u8 67, .int .u8 68, .int .u8 69, .int .u8 70, .int .u8 71, .int .u8 72, .int .u8 73, .int .u8 74, .int .u8 75, .int .u8 76, .int .u8 77, .int .u8 78, .int .u8 79, .int .u8 80]) (.int .i64 x54_3)).run Try.prog W_ = .ok (.int .u8 (rd [65, 66, 67, 68, 69, 70, 71, 72, 73, 74, 75, 76, 77, 78, 79, 80] x54_3)) W_ := (by intro W_; generalize x54_3 = jj_ at p25 q25 ⊢; rcases (show jj_ = 0 ∨ jj_ = 1 ∨ jj_ = 2 ∨ jj_ = 3 ∨ jj_ = 4 ∨ jj_ = 5 ∨ jj_ = 6 ∨ jj_ = 7 ∨ jj_ = 8 ∨ jj_ = 9 ∨ jj_ = 10 ∨ jj_ = 11 ∨ jj_ = 12 ∨ jj_ = 13 ∨ jj_ = 14 ∨ jj_ = 15 by omega) with hj_ | hj_ | hj_ | hj_ | hj_ | hj_ | hj_ | hj_ | hj_ | hj_ | hj_ | hj_ | hj_ | hj_ | hj_ | hj_ <;> subst hj_ <;> (show _ = _; kernel_rfl))
                                replace p25 := eq_true p25
                                replace q25 := eq_true q25
                                have p27 : 0 ≤ (0 : Int) := (by omega)
                                have q27 : 0 < a1.size := (by have : (0 : Int) < (a1.size : Int) := of_decide_eq_true (by first | (with_reducible assumption) | assumption); omega)
                                have hx27 : ∀ h : 0 < a1.size, ((a1[0]'h).toNat : Int) = bt a1 0 := bt_at a1 0
                                clear p27
                                have qi27 : (0 < (a1.size : Int)) = True := eq_true (of_decide_eq_true (by first | (with_reducible assumption) | assumption))
                                replace q27 := eq_true q27
                                have hcz33_0 : wr.cell? ⟨gb173, 0, none⟩ = some (.int .i64 a0_0) := (blk_cell BK173.out 0).trans rfl
                                have hcz33_1 : wr.cell? ⟨gb173, 1, none⟩ = some (.int .i64 a0_1) := (blk_cell BK173.out 1).trans rfl
                                have hcz33_2 : wr.cell? ⟨gb173, 2, none⟩ = some (.int .i64 a0_2) := (blk_cell BK173.out 2).trans rfl
                                have hcz33_3 : wr.cell? ⟨gb173, 3, none⟩ = some (.int .i64 a0_3) := (blk_cell BK173.out 3).trans rfl
                                have hcz33_4 : wr.cell? ⟨gb173, 4, none⟩ = some (.int .i64 a0_4) := (blk_cell BK173.out 4).trans rfl
                                have hcz33_5 : wr.cell? ⟨gb173, 5, none⟩ = some (.int .i64 a0_5) := (blk_cell BK173.out 5).trans rfl
                                have hfz33_0 := blk_frozen BK173.out 0
                                have hfz33_1 := blk_frozen BK173.out 1
                                have hfz33_2 := blk_frozen BK173.out 2
                                have hfz33_3 := blk_frozen BK173.out 3
                                have hfz33_4 := blk_frozen BK173.out 4
                                have hfz33_5 := blk_frozen BK173.out 5
                                go_wp2
                                go_ret2
                                exact ⟨by first | rfl | (simp [errW_none, errW_some] <;> rfl) | (simp [*, errW_none, errW_some] <;> rfl), by repeat (first | (with_reducible first | exact HB.out | apply below_alloc | apply pw_below_drewN | apply below_drew1 | refine below_set ?_ GE173.out) | exact HB.out)⟩
                          · rw [if_neg c28] at H
                            have c28b0 : ((rd [65, 66, 67, 68, 69, 70, 71, 72, 73, 74, 75, 76, 77, 78, 79, 80] x54_3) == (bt a1 0)) = false := beq_eq_false_iff_ne.mpr c28
                            have c28b1 : ((rd [65, 66, 67, 68, 69, 70, 71, 72, 73, 74, 75, 76, 77, 78, 79, 80] x54_3) != (bt a1 0)) = true := bne_iff_ne.mpr c28
                            have H' := Aside0.mk H
                            clear H
                            have p25 : 0 ≤ (x54_3 : Int) := of_decide_eq_true (by first | (with_reducible assumption) | assumption)
                            have q25 : x54_3 < (16 : Int) := of_decide_eq_true (by first | (with_reducible assumption) | assumption)
                            have hx25 : ∀ W_ : World, (Instr.index 58 (.agg #[.int .u8 65, .int .u8 66, .int .u8 67, .int .u8 68, .int .u8 69, .int .u8 70, .int .u8 71, .int .u8 72, .int .u8 73, .int .u8 74, .int .u8 75, .int .u8 76, .int .u8 77, .int .u8 78, .int .u8 79, .int .u8 80]) (.int .i64 x54_3)).run Try.prog W_ = .ok (.int .u8 (rd [65, 66, 67, 68, 69, 70, 71, 72, 73, 74, 75, 76, 77, 78, 79, 80] x54_3)) W_ := (by intro W_; generalize x54_3 = jj_ at p25 q25 ⊢; rcases (show jj_ = 0 ∨ jj_ = 1 ∨ jj_ = 2 ∨ jj_ = 3 ∨ jj_ = 4 ∨ jj_ = 5 ∨ jj_ = 6 ∨ jj_ = 7 ∨ jj_ = 8 ∨ jj_ = 9 ∨ jj_ = 10 ∨ jj_ = 11 ∨ jj_ = 12 ∨ jj_ = 13 ∨ jj_ = 14 ∨ jj_ = 15 by omega) with hj_ | hj_ | hj_ | hj_ | hj_ | hj_ | hj_ | hj_ | hj_ | hj_ | hj_ | hj_ | hj_ | hj_ | hj_ | hj_ <;> subst hj_ <;> (show _ = _; kernel_rfl))
                            replace p25 := eq_true p25
                            replace q25 := eq_true q25
                            have p27 : 0 ≤ (0 : Int) := (by omega)
                            have q27 : 0 < a1.size := (by have : (0 : Int) < (a1.size : Int) := of_decide_eq_true (by first | (with_reducible assumption) | assumption); omega)
                            have hx27 : ∀ h : 0 < a1.size, ((a1[0]'h).toNat : Int) = bt a1 0 := bt_at a1 0
                            clear p27
                            have qi27 : (0 < (a1.size : Int)) = True := eq_true (of_decide_eq_true (by first | (with_reducible assumption) | assumption))
                            replace q27 := eq_true q27
                            go_wp2
                            go_roundg k3
                            case measure => have := HJ4.out; have := HK2.out; have := HK3.out; omega
                            case rel => exact ⟨(wrap64 (x54_3 + 1)), (by first | rfl | (simp; done) | (simp [*]; done)), H', ⟨by have := HJ4.out; have := HK2.out; have := HK3.out; omega⟩, ⟨by (with_reducible repeat (first | refine blk_drewN ?_ _ | refine blk_drew ?_ | refine blk_alloc ?_ _)); exact BK173.out⟩, ⟨by repeat (first | (with_reducible first | exact HB.out | apply below_alloc | apply pw_below_drewN | apply below_drew1 | refine below_set ?_ GE173.out) | exact HB.out)⟩⟩
                        · rw [if_neg c26] at H
                          exact absurd H (by simp)
                      · rw [if_neg c24] at H
                        exact absurd H (by simp)
                    · rw [if_neg c23] at H
                      have c23b0 : decide (x54_3 < 16) = false := decide_eq_false c23
                      clear c23
                      simp only [Option.some.injEq, Prod.mk.injEq] at H
                      obtain ⟨rfl, rfl⟩ := H
                      go_wp2
                      go_ret2
                      exact ⟨by first | rfl | (simp [errW_none, errW_some] <;> rfl) | (simp [*, errW_none, errW_some] <;> rfl), by repeat (first | (with_reducible first | exact HB.out | apply below_alloc | apply pw_below_drewN | apply below_drew1 | refine below_set ?_ GE173.out) | exact HB.out)⟩
  · rw [if_neg c4] at H
    have c4b0 : (t174 == 0) = false := beq_eq_false_iff_ne.mpr c4
    have c4b1 : (t174 != 0) = true := bne_iff_ne.mpr c4
    simp only [Option.some.injEq, Prod.mk.injEq] at H
    obtain ⟨rfl, rfl⟩ := H
    go_enter Try.func24, Try.ntmps24
    go_wp2_with (first | ((with_reducible refine gate_dst (N := 2) rfl ?_); (try (refine gate_guard (by rfl) ?_; dsimp only)); refine box_event ?hg (N := 2) ?hd (cs := #[.int .i64 a0_0, .int .i64 a0_1, .int .i64 a0_2, .int .i64 a0_3, .int .i64 a0_4, .int .i64 a0_5]) (t := 25) ?hr ?_; (case hd => rfl); (case hg => rfl); (case hr => first | (go_simp; done) | (go_simp; rfl)); intro gb173 hg w34 hbox hb; have n0_ := Aside0.mk (below_step (by repeat (first | (with_reducible first | exact HB.out | apply below_alloc | apply pw_below_drewN | apply below_drew1) | exact HB.out)) hb); have n1_ := Aside0.mk (hbox); have n2_ := Aside0.mk ((by rw [hg]; exact (below_size (by repeat (first | (with_reducible first | exact HB.out | apply below_alloc | apply pw_below_drewN | apply below_drew1) | exact HB.out))) : w.heap.size ≤ gb173)); have n3_ := Aside0.mk ((by rw [hg]; exact (below_size (by repeat (first | (with_reducible first | exact HB.out | apply below_alloc | apply pw_below_drewN | apply below_drew1) | exact HB.out))) : w.heap.size ≤ gb173)); clear HB; have HB := n0_; have BK173 := n1_; have GW173 := n2_; have GE173 := n3_; clear n0_ n1_ n2_ n3_; clear hb hbox hg; have hcz35_0 : w34.cell? ⟨gb173, 0, none⟩ = some (.int .i64 a0_0) := (blk_cell BK173.out 0).trans rfl; have hcz35_1 : w34.cell? ⟨gb173, 1, none⟩ = some (.int .i64 a0_1) := (blk_cell BK173.out 1).trans rfl; have hcz35_2 : w34.cell? ⟨gb173, 2, none⟩ = some (.int .i64 a0_2) := (blk_cell BK173.out 2).trans rfl; have hcz35_3 : w34.cell? ⟨gb173, 3, none⟩ = some (.int .i64 a0_3) := (blk_cell BK173.out 3).trans rfl; have hcz35_4 : w34.cell? ⟨gb173, 4, none⟩ = some (.int .i64 a0_4) := (blk_cell BK173.out 4).trans rfl; have hcz35_5 : w34.cell? ⟨gb173, 5, none⟩ = some (.int .i64 a0_5) := (blk_cell BK173.out 5).trans rfl; have hfz35_0 := blk_frozen BK173.out 0; have hfz35_1 := blk_frozen BK173.out 1; have hfz35_2 := blk_frozen BK173.out 2; have hfz35_3 := blk_frozen BK173.out 3; have hfz35_4 := blk_frozen BK173.out 4; have hfz35_5 := blk_frozen BK173.out 5) | ((with_reducible refine gate_callee (f := 13) rfl ?_); refine goesL_ (some 12) rfl rfl Try.func13 (by kernel_rfl) rfl #[.agg #[.int .i64 a0_0, .int .i64 a0_1, .int .i64 a0_2, .int .i64 a0_3, .int .i64 a0_4, .int .i64 a0_5]] rfl (by (try simp only [List.map_toArray, List.map_cons, List.map_nil]); first | done | rfl | (simp only [List.length_drop, List.length_take]; rfl)) ?_; (with_reducible refine (sheetgrid_Check.calls k a0_0 a0_1 a0_2 a0_3 a0_4 a0_5 t174 _ A3.out).mono ?_); rintro e w36 ⟨rfl, hb⟩; refine ⟨_, rfl, ?_⟩; have n0_ := Aside0.mk (blk_below (g := gb173) (o := .cells #[.int .i64 a0_0, .int .i64 a0_1, .int .i64 a0_2, .int .i64 a0_3, .int .i64 a0_4, .int .i64 a0_5] 25 (0, 0)) (by (with_reducible repeat (first | refine blk_drewN ?_ _ | refine blk_drew ?_ | refine blk_alloc ?_ _)); exact BK173.out) hb); have n1_ := Aside0.mk (below_step (by repeat (first | (with_reducible first | exact HB.out | apply below_alloc | apply pw_below_drewN | apply below_drew1 | refine below_set ?_ GE173.out) | exact HB.out)) hb); clear BK173; clear HB; have BK173 := n0_; have HB := n1_; clear n0_ n1_; (try clear hb); (try clear hb2); (try clear hk); (try clear hi)))
    go_ret2
    exact ⟨by first | rfl | (simp [errW_none, errW_some] <;> rfl) | (simp [*, errW_none, errW_some] <;> rfl), by repeat (first | (with_reducible first | exact HB.out | apply below_alloc | apply pw_below_drewN | apply below_drew1 | refine below_set ?_ GE173.out) | exact HB.out)⟩

/-! ### mapsheetslaw40_awake: function 12 -/
def mapsheetslaw40_awake.f (k : Nat)  : Option (Bool) := (sheetgrid_Box.f k 0 0 100 50 3 2 5).bind fun bt176 => ((sheetgrid_Name.f k 0 0 100 50 3 2 5).bind fun bt182 => ((sheetgrid_At.f k 0 0 100 50 3 2 100 50).bind fun bt184 => ((sheetgrid_Neighbor.f k 0 0 100 50 3 2 2 4).bind fun bt188 => ((sheetgrid_Neighbor.f k 0 0 100 50 3 2 2 2).bind fun bt190 => ((sheetgrid_Parse.f k 0 0 100 50 3 2 (⟨#[68, 49]⟩ : ByteArray)).bind fun bt192 => ((sheetgrid_Parse.f k 0 0 100 50 3 2 (⟨#[66, 48, 50]⟩ : ByteArray)).bind fun bt194 => (if (bt176.1 == 100 && (bt176.2.1 == 50 && (bt176.2.2.1 == 200 && (bt176.2.2.2.1 == 100)))) = true then (if bt176.2.2.2.2 = 0 then (if bt182.1.toList = ([66, 50] : List UInt8) then (if bt182.2 = 0 then ((mapsheetsref04_Same.f k bt184.1 (([1, 2, 4, 5] : List Int))).bind fun t199 => (if t199 = true then (if bt184.2 = 0 then (if bt188.1 = 5 then (if bt188.2 = true then (if bt190.2 = true then (none) else (if bt192.2 = 7 then (some (bt194.2 == 20)) else (none))) else (none)) else (none)) else (none)) else (none))) else (none)) else (none)) else (none)) else (none))))))))
theorem mapsheetslaw40_awake.mono : ∀ k, LeO (mapsheetslaw40_awake.f k ) (mapsheetslaw40_awake.f (k + 1) ) := by
  intro  k
  unfold mapsheetslaw40_awake.f
  repeat' first
      | (with_reducible exact mapsheetsref04_Same.mono _ _ _)
      | (with_reducible exact sheetgrid_At.mono _ _ _ _ _ _ _ _ _)
      | (with_reducible exact sheetgrid_Box.mono _ _ _ _ _ _ _ _)
      | (with_reducible exact sheetgrid_Name.mono _ _ _ _ _ _ _ _)
      | (with_reducible exact sheetgrid_Neighbor.mono _ _ _ _ _ _ _ _ _)
      | (with_reducible exact sheetgrid_Parse.mono _ _ _ _ _ _ _ _)
      | (with_reducible exact LeO.refl _)
      | (with_reducible exact LeO.none _)
      | (with_reducible refine LeO.ite ?_ ?_)
      | (with_reducible refine LeO.bind ?_ (fun _ => ?_))
      | exact mapsheetsref04_Same.mono _ _ _
      | exact sheetgrid_At.mono _ _ _ _ _ _ _ _ _
      | exact sheetgrid_Box.mono _ _ _ _ _ _ _ _
      | exact sheetgrid_Name.mono _ _ _ _ _ _ _ _
      | exact sheetgrid_Neighbor.mono _ _ _ _ _ _ _ _ _
      | exact sheetgrid_Parse.mono _ _ _ _ _ _ _ _
      | exact LeO.none _
      | refine LeO.ite ?_ ?_
      | refine LeO.bind ?_ (fun _ => ?_)
set_option maxHeartbeats 8000000 in
set_option maxRecDepth 100000 in
theorem mapsheetslaw40_awake.calls (k : Nat)  (r : Bool) (w : World) (h : mapsheetslaw40_awake.f k  = some r) :
    Calls Try.prog 12 #[] w fun e w' => e = .returned (.bool r) ∧ Below w.heap.size w w' := by
  have hu25 := Try.underlying25
  have hu27 := Try.underlying27
  have hu23 := Try.underlying23
  have HB := Aside0.mk (Below.refl w.heap.size w)
  have H : ((sheetgrid_Box.f k 0 0 100 50 3 2 5).bind fun bt176 => ((sheetgrid_Name.f k 0 0 100 50 3 2 5).bind fun bt182 => ((sheetgrid_At.f k 0 0 100 50 3 2 100 50).bind fun bt184 => ((sheetgrid_Neighbor.f k 0 0 100 50 3 2 2 4).bind fun bt188 => ((sheetgrid_Neighbor.f k 0 0 100 50 3 2 2 2).bind fun bt190 => ((sheetgrid_Parse.f k 0 0 100 50 3 2 (⟨#[68, 49]⟩ : ByteArray)).bind fun bt192 => ((sheetgrid_Parse.f k 0 0 100 50 3 2 (⟨#[66, 48, 50]⟩ : ByteArray)).bind fun bt194 => (if (bt176.1 == 100 && (bt176.2.1 == 50 && (bt176.2.2.1 == 200 && (bt176.2.2.2.1 == 100)))) = true then (if bt176.2.2.2.2 = 0 then (if bt182.1.toList = ([66, 50] : List UInt8) then (if bt182.2 = 0 then ((mapsheetsref04_Same.f k bt184.1 (([1, 2, 4, 5] : List Int))).bind fun t199 => (if t199 = true then (if bt184.2 = 0 then (if bt188.1 = 5 then (if bt188.2 = true then (if bt190.2 = true then (none) else (if bt192.2 = 7 then (some (bt194.2 == 20)) else (none))) else (none)) else (none)) else (none)) else (none))) else (none)) else (none)) else (none)) else (none))))))))) = some r := h
  clear h
  replace H := Option.bind_eq_some_iff.mp H
  obtain ⟨⟨t176, t177, t178, t179, t180⟩, A10, H⟩ := H
  replace H : ((sheetgrid_Name.f k 0 0 100 50 3 2 5).bind fun bt182 => ((sheetgrid_At.f k 0 0 100 50 3 2 100 50).bind fun bt184 => ((sheetgrid_Neighbor.f k 0 0 100 50 3 2 2 4).bind fun bt188 => ((sheetgrid_Neighbor.f k 0 0 100 50 3 2 2 2).bind fun bt190 => ((sheetgrid_Parse.f k 0 0 100 50 3 2 (⟨#[68, 49]⟩ : ByteArray)).bind fun bt192 => ((sheetgrid_Parse.f k 0 0 100 50 3 2 (⟨#[66, 48, 50]⟩ : ByteArray)).bind fun bt194 => (if (t176 == 100 && (t177 == 50 && (t178 == 200 && (t179 == 100)))) = true then (if t180 = 0 then (if bt182.1.toList = ([66, 50] : List UInt8) then (if bt182.2 = 0 then ((mapsheetsref04_Same.f k bt184.1 (([1, 2, 4, 5] : List Int))).bind fun t199 => (if t199 = true then (if bt184.2 = 0 then (if bt188.1 = 5 then (if bt188.2 = true then (if bt190.2 = true then (none) else (if bt192.2 = 7 then (some (bt194.2 == 20)) else (none))) else (none)) else (none)) else (none)) else (none))) else (none)) else (none)) else (none)) else (none)))))))) = some r := H
  have A1 := Aside0.mk A10
  clear A10
  replace H := Option.bind_eq_some_iff.mp H
  obtain ⟨⟨t182, t183⟩, A20, H⟩ := H
  replace H : ((sheetgrid_At.f k 0 0 100 50 3 2 100 50).bind fun bt184 => ((sheetgrid_Neighbor.f k 0 0 100 50 3 2 2 4).bind fun bt188 => ((sheetgrid_Neighbor.f k 0 0 100 50 3 2 2 2).bind fun bt190 => ((sheetgrid_Parse.f k 0 0 100 50 3 2 (⟨#[68, 49]⟩ : ByteArray)).bind fun bt192 => ((sheetgrid_Parse.f k 0 0 100 50 3 2 (⟨#[66, 48, 50]⟩ : ByteArray)).bind fun bt194 => (if (t176 == 100 && (t177 == 50 && (t178 == 200 && (t179 == 100)))) = true then (if t180 = 0 then (if t182.toList = ([66, 50] : List UInt8) then (if t183 = 0 then ((mapsheetsref04_Same.f k bt184.1 (([1, 2, 4, 5] : List Int))).bind fun t199 => (if t199 = true then (if bt184.2 = 0 then (if bt188.1 = 5 then (if bt188.2 = true then (if bt190.2 = true then (none) else (if bt192.2 = 7 then (some (bt194.2 == 20)) else (none))) else (none)) else (none)) else (none)) else (none))) else (none)) else (none)) else (none)) else (none))))))) = some r := H
  have A2 := Aside0.mk A20
  clear A20
  replace H := Option.bind_eq_some_iff.mp H
  obtain ⟨⟨t184, t187⟩, A30, H⟩ := H
  replace H : ((sheetgrid_Neighbor.f k 0 0 100 50 3 2 2 4).bind fun bt188 => ((sheetgrid_Neighbor.f k 0 0 100 50 3 2 2 2).bind fun bt190 => ((sheetgrid_Parse.f k 0 0 100 50 3 2 (⟨#[68, 49]⟩ : ByteArray)).bind fun bt192 => ((sheetgrid_Parse.f k 0 0 100 50 3 2 (⟨#[66, 48, 50]⟩ : ByteArray)).bind fun bt194 => (if (t176 == 100 && (t177 == 50 && (t178 == 200 && (t179 == 100)))) = true then (if t180 = 0 then (if t182.toList = ([66, 50] : List UInt8) then (if t183 = 0 then ((mapsheetsref04_Same.f k t184 (([1, 2, 4, 5] : List Int))).bind fun t199 => (if t199 = true then (if t187 = 0 then (if bt188.1 = 5 then (if bt188.2 = true then (if bt190.2 = true then (none) else (if bt192.2 = 7 then (some (bt194.2 == 20)) else (none))) else (none)) else (none)) else (none)) else (none))) else (none)) else (none)) else (none)) else (none)))))) = some r := H
  have A3 := Aside0.mk A30
  clear A30
  replace H := Option.bind_eq_some_iff.mp H
  obtain ⟨⟨t188, t189⟩, A40, H⟩ := H
  replace H : ((sheetgrid_Neighbor.f k 0 0 100 50 3 2 2 2).bind fun bt190 => ((sheetgrid_Parse.f k 0 0 100 50 3 2 (⟨#[68, 49]⟩ : ByteArray)).bind fun bt192 => ((sheetgrid_Parse.f k 0 0 100 50 3 2 (⟨#[66, 48, 50]⟩ : ByteArray)).bind fun bt194 => (if (t176 == 100 && (t177 == 50 && (t178 == 200 && (t179 == 100)))) = true then (if t180 = 0 then (if t182.toList = ([66, 50] : List UInt8) then (if t183 = 0 then ((mapsheetsref04_Same.f k t184 (([1, 2, 4, 5] : List Int))).bind fun t199 => (if t199 = true then (if t187 = 0 then (if t188 = 5 then (if t189 = true then (if bt190.2 = true then (none) else (if bt192.2 = 7 then (some (bt194.2 == 20)) else (none))) else (none)) else (none)) else (none)) else (none))) else (none)) else (none)) else (none)) else (none))))) = some r := H
  have A4 := Aside0.mk A40
  clear A40
  replace H := Option.bind_eq_some_iff.mp H
  obtain ⟨⟨t190, t191⟩, A50, H⟩ := H
  replace H : ((sheetgrid_Parse.f k 0 0 100 50 3 2 (⟨#[68, 49]⟩ : ByteArray)).bind fun bt192 => ((sheetgrid_Parse.f k 0 0 100 50 3 2 (⟨#[66, 48, 50]⟩ : ByteArray)).bind fun bt194 => (if (t176 == 100 && (t177 == 50 && (t178 == 200 && (t179 == 100)))) = true then (if t180 = 0 then (if t182.toList = ([66, 50] : List UInt8) then (if t183 = 0 then ((mapsheetsref04_Same.f k t184 (([1, 2, 4, 5] : List Int))).bind fun t199 => (if t199 = true then (if t187 = 0 then (if t188 = 5 then (if t189 = true then (if t191 = true then (none) else (if bt192.2 = 7 then (some (bt194.2 == 20)) else (none))) else (none)) else (none)) else (none)) else (none))) else (none)) else (none)) else (none)) else (none)))) = some r := H
  have A5 := Aside0.mk A50
  clear A50
  replace H := Option.bind_eq_some_iff.mp H
  obtain ⟨⟨t192, t193⟩, A60, H⟩ := H
  replace H : ((sheetgrid_Parse.f k 0 0 100 50 3 2 (⟨#[66, 48, 50]⟩ : ByteArray)).bind fun bt194 => (if (t176 == 100 && (t177 == 50 && (t178 == 200 && (t179 == 100)))) = true then (if t180 = 0 then (if t182.toList = ([66, 50] : List UInt8) then (if t183 = 0 then ((mapsheetsref04_Same.f k t184 (([1, 2, 4, 5] : List Int))).bind fun t199 => (if t199 = true then (if t187 = 0 then (if t188 = 5 then (if t189 = true then (if t191 = true then (none) else (if t193 = 7 then (some (bt194.2 == 20)) else (none))) else (none)) else (none)) else (none)) else (none))) else (none)) else (none)) else (none)) else (none))) = some r := H
  have A6 := Aside0.mk A60
  clear A60
  replace H := Option.bind_eq_some_iff.mp H
  obtain ⟨⟨t194, t195⟩, A70, H⟩ := H
  replace H : (if (t176 == 100 && (t177 == 50 && (t178 == 200 && (t179 == 100)))) = true then (if t180 = 0 then (if t182.toList = ([66, 50] : List UInt8) then (if t183 = 0 then ((mapsheetsref04_Same.f k t184 (([1, 2, 4, 5] : List Int))).bind fun t199 => (if t199 = true then (if t187 = 0 then (if t188 = 5 then (if t189 = true then (if t191 = true then (none) else (if t193 = 7 then (some (t195 == 20)) else (none))) else (none)) else (none)) else (none)) else (none))) else (none)) else (none)) else (none)) else (none)) = some r := H
  have A7 := Aside0.mk A70
  clear A70
  by_cases c8 : (t176 == 100 && (t177 == 50 && (t178 == 200 && (t179 == 100)))) = true
  · rw [if_pos c8] at H
    have c8b0 : (t176 == 100 && (t177 == 50 && (t178 == 200 && (t179 == 100)))) = true := c8
    (try (have c8b1 : decide (t176 = 100 && (t177 == 50 && (t178 == 200 && (t179 == 100)))) = true := by simpa using c8))
    (try (have c8b2 : (t176 == 100 && (t177 == 50 && (t178 == 200 && (t179 == 100)))) = true := by simpa using c8))
    clear c8
    by_cases c9 : t180 = 0
    · rw [if_pos c9] at H
      have c9b0 : (t180 == 0) = true := beq_iff_eq.mpr c9
      have c9b1 : (t180 != 0) = false := bne_eq_false_iff_eq.mpr c9
      clear c9
      by_cases c10 : t182.toList = ([66, 50] : List UInt8)
      · rw [if_pos c10] at H
        have c10b0 : (t182.toList == ([66, 50] : List UInt8)) = true := beq_iff_eq.mpr c10
        have c10b1 : (t182.toList != ([66, 50] : List UInt8)) = false := bne_eq_false_iff_eq.mpr c10
        clear c10
        by_cases c11 : t183 = 0
        · rw [if_pos c11] at H
          have c11b0 : (t183 == 0) = true := beq_iff_eq.mpr c11
          have c11b1 : (t183 != 0) = false := bne_eq_false_iff_eq.mpr c11
          clear c11
          obtain ⟨y196, hy196⟩ : ∃ y_ : List Int, y_ = (([1, 2, 4, 5] : List Int)) := ⟨_, rfl⟩
          replace H : ((mapsheetsref04_Same.f k t184 y196).bind fun t199 => (if t199 = true then (if t187 = 0 then (if t188 = 5 then (if t189 = true then (if t191 = true then (none) else (if t193 = 7 then (some (t195 == 20)) else (none))) else (none)) else (none)) else (none)) else (none))) = some r := by first | (rw [hy196]; with_reducible exact H) | (have H2_ := (Option.bind_some _ _).symm.trans H; rw [hy196]; with_reducible exact H2_) | (have H2_ := (Option.bind_some _ _).symm.trans H; with_reducible exact H2_) | with_reducible exact H | (rw [hy196]; exact H) | exact H
          have Ny196 := Aside0.mk hy196
          clear hy196
          replace H := Option.bind_eq_some_iff.mp H
          obtain ⟨t199, A120, H⟩ := H
          replace H : (if t199 = true then (if t187 = 0 then (if t188 = 5 then (if t189 = true then (if t191 = true then (none) else (if t193 = 7 then (some (t195 == 20)) else (none))) else (none)) else (none)) else (none)) else (none)) = some r := H
          have A12 := Aside0.mk A120
          clear A120
          by_cases c13 : t199 = true
          · subst c13
            have H1 : (if t187 = 0 then (if t188 = 5 then (if t189 = true then (if t191 = true then (none) else (if t193 = 7 then (some (t195 == 20)) else (none))) else (none)) else (none)) else (none)) = some r := by rw [if_pos rfl] at H; exact H
            clear H
            have H := H1
            clear H1
            by_cases c14 : t187 = 0
            · rw [if_pos c14] at H
              have c14b0 : (t187 == 0) = true := beq_iff_eq.mpr c14
              have c14b1 : (t187 != 0) = false := bne_eq_false_iff_eq.mpr c14
              clear c14
              by_cases c15 : t188 = 5
              · rw [if_pos c15] at H
                have c15b0 : (t188 == 5) = true := beq_iff_eq.mpr c15
                have c15b1 : (t188 != 5) = false := bne_eq_false_iff_eq.mpr c15
                clear c15
                by_cases c16 : t189 = true
                · subst c16
                  have H1 : (if t191 = true then (none) else (if t193 = 7 then (some (t195 == 20)) else (none))) = some r := by rw [if_pos rfl] at H; exact H
                  clear H
                  have H := H1
                  clear H1
                  by_cases c17 : t191 = true
                  · subst c17
                    have H1 : (none) = some r := by rw [if_pos rfl] at H; exact H
                    clear H
                    have H := H1
                    clear H1
                    exact absurd H (by simp)
                  · replace c17 := Bool.eq_false_iff.mpr c17
                    subst c17
                    have H1 : (if t193 = 7 then (some (t195 == 20)) else (none)) = some r := by rw [if_neg (show ¬ (false = true) by decide)] at H; exact H
                    clear H
                    have H := H1
                    clear H1
                    by_cases c18 : t193 = 7
                    · rw [if_pos c18] at H
                      have c18b0 : (t193 == 7) = true := beq_iff_eq.mpr c18
                      have c18b1 : (t193 != 7) = false := bne_eq_false_iff_eq.mpr c18
                      clear c18
                      obtain rfl := Option.some.inj H
                      go_enter Try.func12, Try.ntmps12
                      go_wp2_with (first | ((with_reducible refine gate_dst (N := 1) rfl ?_); (try (refine gate_guard (by rfl) ?_; dsimp only)); refine box_event ?hg (N := 1) ?hd (cs := #[.int .i64 0, .int .i64 0, .int .i64 0, .int .i64 0, .int .i64 0, .int .i64 0]) (t := 25) ?hr ?_; (case hd => rfl); (case hg => rfl); (case hr => first | (go_simp; done) | (go_simp; rfl)); intro gb175 hg w19 hbox hb; have n0_ := Aside0.mk (below_step (by repeat (first | (with_reducible first | exact HB.out | apply below_alloc | apply pw_below_drewN | apply below_drew1) | exact HB.out)) hb); have n1_ := Aside0.mk (hbox); have n2_ := Aside0.mk ((by rw [hg]; exact (below_size (by repeat (first | (with_reducible first | exact HB.out | apply below_alloc | apply pw_below_drewN | apply below_drew1) | exact HB.out))) : w.heap.size ≤ gb175)); have n3_ := Aside0.mk ((by rw [hg]; exact (below_size (by repeat (first | (with_reducible first | exact HB.out | apply below_alloc | apply pw_below_drewN | apply below_drew1) | exact HB.out))) : w.heap.size ≤ gb175)); clear HB; have HB := n0_; have BK175 := n1_; have GW175 := n2_; have GE175 := n3_; clear n0_ n1_ n2_ n3_; clear hb hbox hg; have hcz20_0 : w19.cell? ⟨gb175, 0, none⟩ = some (.int .i64 0) := (blk_cell BK175.out 0).trans rfl; have hcz20_1 : w19.cell? ⟨gb175, 1, none⟩ = some (.int .i64 0) := (blk_cell BK175.out 1).trans rfl; have hcz20_2 : w19.cell? ⟨gb175, 2, none⟩ = some (.int .i64 0) := (blk_cell BK175.out 2).trans rfl; have hcz20_3 : w19.cell? ⟨gb175, 3, none⟩ = some (.int .i64 0) := (blk_cell BK175.out 3).trans rfl; have hcz20_4 : w19.cell? ⟨gb175, 4, none⟩ = some (.int .i64 0) := (blk_cell BK175.out 4).trans rfl; have hcz20_5 : w19.cell? ⟨gb175, 5, none⟩ = some (.int .i64 0) := (blk_cell BK175.out 5).trans rfl; have hfz20_0 := blk_frozen BK175.out 0; have hfz20_1 := blk_frozen BK175.out 1; have hfz20_2 := blk_frozen BK175.out 2; have hfz20_3 := blk_frozen BK175.out 3; have hfz20_4 := blk_frozen BK175.out 4; have hfz20_5 := blk_frozen BK175.out 5) | ((with_reducible refine gate_callee (f := 10) rfl ?_); refine goesL_ (some 19) rfl rfl Try.func10 (by kernel_rfl) rfl #[.agg #[.int .i64 0, .int .i64 0, .int .i64 100, .int .i64 50, .int .i64 3, .int .i64 2], .int .i64 5] rfl (by (try simp only [List.map_toArray, List.map_cons, List.map_nil]); first | done | rfl | (simp only [List.length_drop, List.length_take]; rfl)) ?_; (with_reducible refine (sheetgrid_Box.calls k 0 0 100 50 3 2 5 t176 t177 t178 t179 t180 _ A1.out).mono ?_); rintro e w21 ⟨rfl, hb⟩; refine ⟨_, rfl, ?_⟩; have n0_ := Aside0.mk (blk_below (g := gb175) (o := .cells #[.int .i64 0, .int .i64 0, .int .i64 100, .int .i64 50, .int .i64 3, .int .i64 2] 25 (0, 0)) (by (with_reducible repeat (first | refine blk_drewN ?_ _ | refine blk_drew ?_ | refine blk_alloc ?_ _)); refine blk_put (cs := #[.int .i64 0, .int .i64 0, .int .i64 100, .int .i64 50, .int .i64 3, .int .i64 0]) ?_ 5 _ rfl; (with_reducible repeat (first | refine blk_drewN ?_ _ | refine blk_drew ?_ | refine blk_alloc ?_ _)); refine blk_put (cs := #[.int .i64 0, .int .i64 0, .int .i64 100, .int .i64 50, .int .i64 0, .int .i64 0]) ?_ 4 _ rfl; (with_reducible repeat (first | refine blk_drewN ?_ _ | refine blk_drew ?_ | refine blk_alloc ?_ _)); refine blk_put (cs := #[.int .i64 0, .int .i64 0, .int .i64 100, .int .i64 0, .int .i64 0, .int .i64 0]) ?_ 3 _ rfl; (with_reducible repeat (first | refine blk_drewN ?_ _ | refine blk_drew ?_ | refine blk_alloc ?_ _)); refine blk_put (cs := #[.int .i64 0, .int .i64 0, .int .i64 0, .int .i64 0, .int .i64 0, .int .i64 0]) ?_ 2 _ rfl; (with_reducible repeat (first | refine blk_drewN ?_ _ | refine blk_drew ?_ | refine blk_alloc ?_ _)); refine blk_put (cs := #[.int .i64 0, .int .i64 0, .int .i64 0, .int .i64 0, .int .i64 0, .int .i64 0]) ?_ 1 _ rfl; (with_reducible repeat (first | refine blk_drewN ?_ _ | refine blk_drew ?_ | refine blk_alloc ?_ _)); refine blk_put (cs := #[.int .i64 0, .int .i64 0, .int .i64 0, .int .i64 0, .int .i64 0, .int .i64 0]) ?_ 0 _ rfl; (with_reducible repeat (first | refine blk_drewN ?_ _ | refine blk_drew ?_ | refine blk_alloc ?_ _)); exact BK175.out) hb); have n1_ := Aside0.mk (below_step (by repeat (first | (with_reducible first | exact HB.out | apply below_alloc | apply pw_below_drewN | apply below_drew1 | refine below_set ?_ GE175.out) | exact HB.out)) hb); clear BK175; clear HB; have BK175 := n0_; have HB := n1_; clear n0_ n1_; (try clear hb); (try clear hb2); (try clear hk); (try clear hi)) | ((with_reducible refine gate_dst (N := 2) rfl ?_); (try (refine gate_guard (by rfl) ?_; dsimp only)); refine box_event ?hg (N := 2) ?hd (cs := #[.int .i64 0, .int .i64 0, .int .i64 0, .int .i64 0]) (t := 27) ?hr ?_; (case hd => rfl); (case hg => rfl); (case hr => first | (go_simp; done) | (go_simp; rfl)); intro gb181 hg w22 hbox hb; have n0_ := Aside0.mk (blk_below (g := gb175) (o := .cells #[.int .i64 0, .int .i64 0, .int .i64 100, .int .i64 50, .int .i64 3, .int .i64 2] 25 (0, 0)) (by (with_reducible repeat (first | refine blk_drewN ?_ _ | refine blk_drew ?_ | refine blk_alloc ?_ _)); exact BK175.out) hb); have n1_ := Aside0.mk (below_step (by repeat (first | (with_reducible first | exact HB.out | apply below_alloc | apply pw_below_drewN | apply below_drew1 | refine below_set ?_ GE175.out) | exact HB.out)) hb); have n2_ := Aside0.mk (hbox); have n3_ := Aside0.mk ((by rw [hg]; exact (below_size (by repeat (first | (with_reducible first | exact HB.out | apply below_alloc | apply pw_below_drewN | apply below_drew1 | refine below_set ?_ GE175.out) | exact HB.out))) : w.heap.size ≤ gb181)); have n4_ := Aside0.mk ((by rw [hg]; exact (below_size (by repeat (first | (with_reducible first | exact HB.out | apply below_alloc | apply pw_below_drewN | apply below_drew1 | refine below_set ?_ GE175.out) | exact HB.out))) : w.heap.size ≤ gb181)); have n5_ := Aside0.mk ((by rw [hg]; exact Nat.ne_of_lt (blk_lt (g := gb175) (o := .cells #[.int .i64 0, .int .i64 0, .int .i64 100, .int .i64 50, .int .i64 3, .int .i64 2] 25 (0, 0)) (by (with_reducible repeat (first | refine blk_drewN ?_ _ | refine blk_drew ?_ | refine blk_alloc ?_ _)); exact BK175.out)) : gb175 ≠ gb181)); have n6_ := Aside0.mk ((by rw [hg]; exact Nat.ne_of_gt (blk_lt (g := gb175) (o := .cells #[.int .i64 0, .int .i64 0, .int .i64 100, .int .i64 50, .int .i64 3, .int .i64 2] 25 (0, 0)) (by (with_reducible repeat (first | refine blk_drewN ?_ _ | refine blk_drew ?_ | refine blk_alloc ?_ _)); exact BK175.out)) : gb181 ≠ gb175)); clear BK175; clear HB; have BK175 := n0_; have HB := n1_; have BK181 := n2_; have GW181 := n3_; have GE181 := n4_; have NB175_181 := n5_; have NB181_175 := n6_; clear n0_ n1_ n2_ n3_ n4_ n5_ n6_; clear hb hbox hg; have hnb23 := NB181_175.out; have hnc23 := NB175_181.out; have hcz24_0 : w22.cell? ⟨gb181, 0, none⟩ = some (.int .i64 0) := (blk_cell BK181.out 0).trans rfl; have hcz24_1 : w22.cell? ⟨gb181, 1, none⟩ = some (.int .i64 0) := (blk_cell BK181.out 1).trans rfl; have hcz24_2 : w22.cell? ⟨gb181, 2, none⟩ = some (.int .i64 0) := (blk_cell BK181.out 2).trans rfl; have hcz24_3 : w22.cell? ⟨gb181, 3, none⟩ = some (.int .i64 0) := (blk_cell BK181.out 3).trans rfl; have hfz24_0 := blk_frozen BK181.out 0; have hfz24_1 := blk_frozen BK181.out 1; have hfz24_2 := blk_frozen BK181.out 2; have hfz24_3 := blk_frozen BK181.out 3; have hcz25_0 : w22.cell? ⟨gb175, 0, none⟩ = some (.int .i64 0) := (blk_cell BK175.out 0).trans rfl; have hcz25_1 : w22.cell? ⟨gb175, 1, none⟩ = some (.int .i64 0) := (blk_cell BK175.out 1).trans rfl; have hcz25_2 : w22.cell? ⟨gb175, 2, none⟩ = some (.int .i64 100) := (blk_cell BK175.out 2).trans rfl; have hcz25_3 : w22.cell? ⟨gb175, 3, none⟩ = some (.int .i64 50) := (blk_cell BK175.out 3).trans rfl; have hcz25_4 : w22.cell? ⟨gb175, 4, none⟩ = some (.int .i64 3) := (blk_cell BK175.out 4).trans rfl; have hcz25_5 : w22.cell? ⟨gb175, 5, none⟩ = some (.int .i64 2) := (blk_cell BK175.out 5).trans rfl; have hfz25_0 := blk_frozen BK175.out 0; have hfz25_1 := blk_frozen BK175.out 1; have hfz25_2 := blk_frozen BK175.out 2; have hfz25_3 := blk_frozen BK175.out 3; have hfz25_4 := blk_frozen BK175.out 4; have hfz25_5 := blk_frozen BK175.out 5) | ((with_reducible refine gate_callee (f := 22) rfl ?_); refine goesL_ (some 24) rfl rfl Try.func22 (by kernel_rfl) rfl #[.agg #[.int .i64 0, .int .i64 0, .int .i64 100, .int .i64 50, .int .i64 3, .int .i64 2], .int .i64 5] rfl (by (try simp only [List.map_toArray, List.map_cons, List.map_nil]); first | done | rfl | (simp only [List.length_drop, List.length_take]; rfl)) ?_; (with_reducible refine (sheetgrid_Name.calls k 0 0 100 50 3 2 5 t182 t183 _ A2.out).mono ?_); rintro e w26 ⟨rfl, hb⟩; refine ⟨_, rfl, ?_⟩; have n0_ := Aside0.mk (blk_below (g := gb175) (o := .cells #[.int .i64 0, .int .i64 0, .int .i64 100, .int .i64 50, .int .i64 3, .int .i64 2] 25 (0, 0)) (by (with_reducible repeat (first | refine blk_drewN ?_ _ | refine blk_drew ?_ | refine blk_alloc ?_ _)); refine blk_far ?_ NB175_181.out _; (with_reducible repeat (first | refine blk_drewN ?_ _ | refine blk_drew ?_ | refine blk_alloc ?_ _)); refine blk_far ?_ NB175_181.out _; (with_reducible repeat (first | refine blk_drewN ?_ _ | refine blk_drew ?_ | refine blk_alloc ?_ _)); refine blk_far ?_ NB175_181.out _; (with_reducible repeat (first | refine blk_drewN ?_ _ | refine blk_drew ?_ | refine blk_alloc ?_ _)); refine blk_far ?_ NB175_181.out _; (with_reducible repeat (first | refine blk_drewN ?_ _ | refine blk_drew ?_ | refine blk_alloc ?_ _)); exact BK175.out) hb); have n1_ := Aside0.mk (blk_below (g := gb181) (o := .cells #[.int .i64 t176, .int .i64 t177, .int .i64 t178, .int .i64 t179] 27 (0, 0)) (by (with_reducible repeat (first | refine blk_drewN ?_ _ | refine blk_drew ?_ | refine blk_alloc ?_ _)); refine blk_put (cs := #[.int .i64 t176, .int .i64 t177, .int .i64 t178, .int .i64 0]) ?_ 3 _ rfl; (with_reducible repeat (first | refine blk_drewN ?_ _ | refine blk_drew ?_ | refine blk_alloc ?_ _)); refine blk_put (cs := #[.int .i64 t176, .int .i64 t177, .int .i64 0, .int .i64 0]) ?_ 2 _ rfl; (with_reducible repeat (first | refine blk_drewN ?_ _ | refine blk_drew ?_ | refine blk_alloc ?_ _)); refine blk_put (cs := #[.int .i64 t176, .int .i64 0, .int .i64 0, .int .i64 0]) ?_ 1 _ rfl; (with_reducible repeat (first | refine blk_drewN ?_ _ | refine blk_drew ?_ | refine blk_alloc ?_ _)); refine blk_put (cs := #[.int .i64 0, .int .i64 0, .int .i64 0, .int .i64 0]) ?_ 0 _ rfl; (with_reducible repeat (first | refine blk_drewN ?_ _ | refine blk_drew ?_ | refine blk_alloc ?_ _)); exact BK181.out) hb); have n2_ := Aside0.mk (below_step (by repeat (first | (with_reducible first | exact HB.out | apply below_alloc | apply pw_below_drewN | apply below_drew1 | refine below_set ?_ GE175.out | refine below_set ?_ GE181.out) | exact HB.out)) hb); clear BK175; clear BK181; clear HB; have BK175 := n0_; have BK181 := n1_; have HB := n2_; clear n0_ n1_ n2_; (try clear hb); (try clear hb2); (try clear hk); (try clear hi); have hcz27_0 : w26.cell? ⟨gb175, 0, none⟩ = some (.int .i64 0) := (blk_cell BK175.out 0).trans rfl; have hcz27_1 : w26.cell? ⟨gb175, 1, none⟩ = some (.int .i64 0) := (blk_cell BK175.out 1).trans rfl; have hcz27_2 : w26.cell? ⟨gb175, 2, none⟩ = some (.int .i64 100) := (blk_cell BK175.out 2).trans rfl; have hcz27_3 : w26.cell? ⟨gb175, 3, none⟩ = some (.int .i64 50) := (blk_cell BK175.out 3).trans rfl; have hcz27_4 : w26.cell? ⟨gb175, 4, none⟩ = some (.int .i64 3) := (blk_cell BK175.out 4).trans rfl; have hcz27_5 : w26.cell? ⟨gb175, 5, none⟩ = some (.int .i64 2) := (blk_cell BK175.out 5).trans rfl; have hfz27_0 := blk_frozen BK175.out 0; have hfz27_1 := blk_frozen BK175.out 1; have hfz27_2 := blk_frozen BK175.out 2; have hfz27_3 := blk_frozen BK175.out 3; have hfz27_4 := blk_frozen BK175.out 4; have hfz27_5 := blk_frozen BK175.out 5) | ((with_reducible refine gate_callee (f := 15) rfl ?_); refine goesL_ (some 30) rfl rfl Try.func15 (by kernel_rfl) rfl #[.agg #[.int .i64 0, .int .i64 0, .int .i64 100, .int .i64 50, .int .i64 3, .int .i64 2], .agg #[.int .i64 100, .int .i64 50]] rfl (by (try simp only [List.map_toArray, List.map_cons, List.map_nil]); first | done | rfl | (simp only [List.length_drop, List.length_take]; rfl)) ?_; (with_reducible refine (sheetgrid_At.calls k 0 0 100 50 3 2 100 50 t184 t187 _ A3.out).mono ?_); rintro e w28 ⟨v185, rfl, ho0, hb⟩; refine ⟨_, rfl, ?_⟩; have n0_ := Aside0.mk (Kd.R_lower ho0 (below_size (by repeat (first | (with_reducible first | exact HB.out | apply below_alloc | apply pw_below_drewN | apply below_drew1 | refine below_set ?_ GE175.out | refine below_set ?_ GE181.out) | exact HB.out)))); have n1_ := Aside0.mk (blk_below (g := gb175) (o := .cells #[.int .i64 0, .int .i64 0, .int .i64 100, .int .i64 50, .int .i64 3, .int .i64 2] 25 (0, 0)) (by (with_reducible repeat (first | refine blk_drewN ?_ _ | refine blk_drew ?_ | refine blk_alloc ?_ _)); exact BK175.out) hb); have n2_ := Aside0.mk (blk_below (g := gb181) (o := .cells #[.int .i64 t176, .int .i64 t177, .int .i64 t178, .int .i64 t179] 27 (0, 0)) (by (with_reducible repeat (first | refine blk_drewN ?_ _ | refine blk_drew ?_ | refine blk_alloc ?_ _)); exact BK181.out) hb); have n3_ := Aside0.mk (below_step (by repeat (first | (with_reducible first | exact HB.out | apply below_alloc | apply pw_below_drewN | apply below_drew1 | refine below_set ?_ GE175.out | refine below_set ?_ GE181.out) | exact HB.out)) hb); clear BK175; clear BK181; clear HB; have HO186 := n0_; have BK175 := n1_; have BK181 := n2_; have HB := n3_; clear n0_ n1_ n2_ n3_; (try clear hb); (try clear hb2); (try clear hk); (try clear hi); (try clear ho0); have hcz29_0 : w28.cell? ⟨gb175, 0, none⟩ = some (.int .i64 0) := (blk_cell BK175.out 0).trans rfl; have hcz29_1 : w28.cell? ⟨gb175, 1, none⟩ = some (.int .i64 0) := (blk_cell BK175.out 1).trans rfl; have hcz29_2 : w28.cell? ⟨gb175, 2, none⟩ = some (.int .i64 100) := (blk_cell BK175.out 2).trans rfl; have hcz29_3 : w28.cell? ⟨gb175, 3, none⟩ = some (.int .i64 50) := (blk_cell BK175.out 3).trans rfl; have hcz29_4 : w28.cell? ⟨gb175, 4, none⟩ = some (.int .i64 3) := (blk_cell BK175.out 4).trans rfl; have hcz29_5 : w28.cell? ⟨gb175, 5, none⟩ = some (.int .i64 2) := (blk_cell BK175.out 5).trans rfl; have hfz29_0 := blk_frozen BK175.out 0; have hfz29_1 := blk_frozen BK175.out 1; have hfz29_2 := blk_frozen BK175.out 2; have hfz29_3 := blk_frozen BK175.out 3; have hfz29_4 := blk_frozen BK175.out 4; have hfz29_5 := blk_frozen BK175.out 5) | ((with_reducible refine gate_callee (f := 20) rfl ?_); refine goesL_ (some 35) rfl rfl Try.func20 (by kernel_rfl) rfl #[.agg #[.int .i64 0, .int .i64 0, .int .i64 100, .int .i64 50, .int .i64 3, .int .i64 2], .int .i64 2, .int .i64 4] rfl (by (try simp only [List.map_toArray, List.map_cons, List.map_nil]); first | done | rfl | (simp only [List.length_drop, List.length_take]; rfl)) ?_; (with_reducible refine (sheetgrid_Neighbor.calls k 0 0 100 50 3 2 2 4 t188 true _ A4.out).mono ?_); rintro e w30 ⟨rfl, hb⟩; refine ⟨_, rfl, ?_⟩; have n0_ := Aside0.mk (Kd.R_below (by (with_reducible repeat (first | apply Kd.R_alloc | apply Kd.R_drewN | apply Kd.R_drew)); exact HO186.out) hb); have n1_ := Aside0.mk (blk_below (g := gb175) (o := .cells #[.int .i64 0, .int .i64 0, .int .i64 100, .int .i64 50, .int .i64 3, .int .i64 2] 25 (0, 0)) (by (with_reducible repeat (first | refine blk_drewN ?_ _ | refine blk_drew ?_ | refine blk_alloc ?_ _)); exact BK175.out) hb); have n2_ := Aside0.mk (blk_below (g := gb181) (o := .cells #[.int .i64 t176, .int .i64 t177, .int .i64 t178, .int .i64 t179] 27 (0, 0)) (by (with_reducible repeat (first | refine blk_drewN ?_ _ | refine blk_drew ?_ | refine blk_alloc ?_ _)); exact BK181.out) hb); have n3_ := Aside0.mk (below_step (by repeat (first | (with_reducible first | exact HB.out | apply below_alloc | apply pw_below_drewN | apply below_drew1 | refine below_set ?_ GE175.out | refine below_set ?_ GE181.out) | exact HB.out)) hb); clear HO186; clear BK175; clear BK181; clear HB; have HO186 := n0_; have BK175 := n1_; have BK181 := n2_; have HB := n3_; clear n0_ n1_ n2_ n3_; (try clear hb); (try clear hb2); (try clear hk); (try clear hi); have hcz31_0 : w30.cell? ⟨gb175, 0, none⟩ = some (.int .i64 0) := (blk_cell BK175.out 0).trans rfl; have hcz31_1 : w30.cell? ⟨gb175, 1, none⟩ = some (.int .i64 0) := (blk_cell BK175.out 1).trans rfl; have hcz31_2 : w30.cell? ⟨gb175, 2, none⟩ = some (.int .i64 100) := (blk_cell BK175.out 2).trans rfl; have hcz31_3 : w30.cell? ⟨gb175, 3, none⟩ = some (.int .i64 50) := (blk_cell BK175.out 3).trans rfl; have hcz31_4 : w30.cell? ⟨gb175, 4, none⟩ = some (.int .i64 3) := (blk_cell BK175.out 4).trans rfl; have hcz31_5 : w30.cell? ⟨gb175, 5, none⟩ = some (.int .i64 2) := (blk_cell BK175.out 5).trans rfl; have hfz31_0 := blk_frozen BK175.out 0; have hfz31_1 := blk_frozen BK175.out 1; have hfz31_2 := blk_frozen BK175.out 2; have hfz31_3 := blk_frozen BK175.out 3; have hfz31_4 := blk_frozen BK175.out 4; have hfz31_5 := blk_frozen BK175.out 5) | ((with_reducible refine gate_callee (f := 20) rfl ?_); refine goesL_ (some 40) rfl rfl Try.func20 (by kernel_rfl) rfl #[.agg #[.int .i64 0, .int .i64 0, .int .i64 100, .int .i64 50, .int .i64 3, .int .i64 2], .int .i64 2, .int .i64 2] rfl (by (try simp only [List.map_toArray, List.map_cons, List.map_nil]); first | done | rfl | (simp only [List.length_drop, List.length_take]; rfl)) ?_; (with_reducible refine (sheetgrid_Neighbor.calls k 0 0 100 50 3 2 2 2 t190 false _ A5.out).mono ?_); rintro e w32 ⟨rfl, hb⟩; refine ⟨_, rfl, ?_⟩; have n0_ := Aside0.mk (Kd.R_below (by (with_reducible repeat (first | apply Kd.R_alloc | apply Kd.R_drewN | apply Kd.R_drew)); exact HO186.out) hb); have n1_ := Aside0.mk (blk_below (g := gb175) (o := .cells #[.int .i64 0, .int .i64 0, .int .i64 100, .int .i64 50, .int .i64 3, .int .i64 2] 25 (0, 0)) (by (with_reducible repeat (first | refine blk_drewN ?_ _ | refine blk_drew ?_ | refine blk_alloc ?_ _)); exact BK175.out) hb); have n2_ := Aside0.mk (blk_below (g := gb181) (o := .cells #[.int .i64 t176, .int .i64 t177, .int .i64 t178, .int .i64 t179] 27 (0, 0)) (by (with_reducible repeat (first | refine blk_drewN ?_ _ | refine blk_drew ?_ | refine blk_alloc ?_ _)); exact BK181.out) hb); have n3_ := Aside0.mk (below_step (by repeat (first | (with_reducible first | exact HB.out | apply below_alloc | apply pw_below_drewN | apply below_drew1 | refine below_set ?_ GE175.out | refine below_set ?_ GE181.out) | exact HB.out)) hb); clear HO186; clear BK175; clear BK181; clear HB; have HO186 := n0_; have BK175 := n1_; have BK181 := n2_; have HB := n3_; clear n0_ n1_ n2_ n3_; (try clear hb); (try clear hb2); (try clear hk); (try clear hi); have hcz33_0 : w32.cell? ⟨gb175, 0, none⟩ = some (.int .i64 0) := (blk_cell BK175.out 0).trans rfl; have hcz33_1 : w32.cell? ⟨gb175, 1, none⟩ = some (.int .i64 0) := (blk_cell BK175.out 1).trans rfl; have hcz33_2 : w32.cell? ⟨gb175, 2, none⟩ = some (.int .i64 100) := (blk_cell BK175.out 2).trans rfl; have hcz33_3 : w32.cell? ⟨gb175, 3, none⟩ = some (.int .i64 50) := (blk_cell BK175.out 3).trans rfl; have hcz33_4 : w32.cell? ⟨gb175, 4, none⟩ = some (.int .i64 3) := (blk_cell BK175.out 4).trans rfl; have hcz33_5 : w32.cell? ⟨gb175, 5, none⟩ = some (.int .i64 2) := (blk_cell BK175.out 5).trans rfl; have hfz33_0 := blk_frozen BK175.out 0; have hfz33_1 := blk_frozen BK175.out 1; have hfz33_2 := blk_frozen BK175.out 2; have hfz33_3 := blk_frozen BK175.out 3; have hfz33_4 := blk_frozen BK175.out 4; have hfz33_5 := blk_frozen BK175.out 5) | ((with_reducible refine gate_callee (f := 24) rfl ?_); refine goesL_ (some 45) rfl rfl Try.func24 (by kernel_rfl) rfl #[.agg #[.int .i64 0, .int .i64 0, .int .i64 100, .int .i64 50, .int .i64 3, .int .i64 2], .string (⟨#[68, 49]⟩ : ByteArray)] rfl (by (try simp only [List.map_toArray, List.map_cons, List.map_nil]); first | done | rfl | (simp only [List.length_drop, List.length_take]; rfl)) ?_; (with_reducible refine (sheetgrid_Parse.calls k 0 0 100 50 3 2 (⟨#[68, 49]⟩ : ByteArray) t192 t193 _ A6.out).mono ?_); rintro e w34 ⟨rfl, hb⟩; refine ⟨_, rfl, ?_⟩; have n0_ := Aside0.mk (Kd.R_below (by (with_reducible repeat (first | apply Kd.R_alloc | apply Kd.R_drewN | apply Kd.R_drew)); exact HO186.out) hb); have n1_ := Aside0.mk (blk_below (g := gb175) (o := .cells #[.int .i64 0, .int .i64 0, .int .i64 100, .int .i64 50, .int .i64 3, .int .i64 2] 25 (0, 0)) (by (with_reducible repeat (first | refine blk_drewN ?_ _ | refine blk_drew ?_ | refine blk_alloc ?_ _)); exact BK175.out) hb); have n2_ := Aside0.mk (blk_below (g := gb181) (o := .cells #[.int .i64 t176, .int .i64 t177, .int .i64 t178, .int .i64 t179] 27 (0, 0)) (by (with_reducible repeat (first | refine blk_drewN ?_ _ | refine blk_drew ?_ | refine blk_alloc ?_ _)); exact BK181.out) hb); have n3_ := Aside0.mk (below_step (by repeat (first | (with_reducible first | exact HB.out | apply below_alloc | apply pw_below_drewN | apply below_drew1 | refine below_set ?_ GE175.out | refine below_set ?_ GE181.out) | exact HB.out)) hb); clear HO186; clear BK175; clear BK181; clear HB; have HO186 := n0_; have BK175 := n1_; have BK181 := n2_; have HB := n3_; clear n0_ n1_ n2_ n3_; (try clear hb); (try clear hb2); (try clear hk); (try clear hi); have hcz35_0 : w34.cell? ⟨gb175, 0, none⟩ = some (.int .i64 0) := (blk_cell BK175.out 0).trans rfl; have hcz35_1 : w34.cell? ⟨gb175, 1, none⟩ = some (.int .i64 0) := (blk_cell BK175.out 1).trans rfl; have hcz35_2 : w34.cell? ⟨gb175, 2, none⟩ = some (.int .i64 100) := (blk_cell BK175.out 2).trans rfl; have hcz35_3 : w34.cell? ⟨gb175, 3, none⟩ = some (.int .i64 50) := (blk_cell BK175.out 3).trans rfl; have hcz35_4 : w34.cell? ⟨gb175, 4, none⟩ = some (.int .i64 3) := (blk_cell BK175.out 4).trans rfl; have hcz35_5 : w34.cell? ⟨gb175, 5, none⟩ = some (.int .i64 2) := (blk_cell BK175.out 5).trans rfl; have hfz35_0 := blk_frozen BK175.out 0; have hfz35_1 := blk_frozen BK175.out 1; have hfz35_2 := blk_frozen BK175.out 2; have hfz35_3 := blk_frozen BK175.out 3; have hfz35_4 := blk_frozen BK175.out 4; have hfz35_5 := blk_frozen BK175.out 5) | ((with_reducible refine gate_callee (f := 24) rfl ?_); refine goesL_ (some 50) rfl rfl Try.func24 (by kernel_rfl) rfl #[.agg #[.int .i64 0, .int .i64 0, .int .i64 100, .int .i64 50, .int .i64 3, .int .i64 2], .string (⟨#[66, 48, 50]⟩ : ByteArray)] rfl (by (try simp only [List.map_toArray, List.map_cons, List.map_nil]); first | done | rfl | (simp only [List.length_drop, List.length_take]; rfl)) ?_; (with_reducible refine (sheetgrid_Parse.calls k 0 0 100 50 3 2 (⟨#[66, 48, 50]⟩ : ByteArray) t194 t195 _ A7.out).mono ?_); rintro e w36 ⟨rfl, hb⟩; refine ⟨_, rfl, ?_⟩; have n0_ := Aside0.mk (Kd.R_below (by (with_reducible repeat (first | apply Kd.R_alloc | apply Kd.R_drewN | apply Kd.R_drew)); exact HO186.out) hb); have n1_ := Aside0.mk (blk_below (g := gb175) (o := .cells #[.int .i64 0, .int .i64 0, .int .i64 100, .int .i64 50, .int .i64 3, .int .i64 2] 25 (0, 0)) (by (with_reducible repeat (first | refine blk_drewN ?_ _ | refine blk_drew ?_ | refine blk_alloc ?_ _)); exact BK175.out) hb); have n2_ := Aside0.mk (blk_below (g := gb181) (o := .cells #[.int .i64 t176, .int .i64 t177, .int .i64 t178, .int .i64 t179] 27 (0, 0)) (by (with_reducible repeat (first | refine blk_drewN ?_ _ | refine blk_drew ?_ | refine blk_alloc ?_ _)); exact BK181.out) hb); have n3_ := Aside0.mk (below_step (by repeat (first | (with_reducible first | exact HB.out | apply below_alloc | apply pw_below_drewN | apply below_drew1 | refine below_set ?_ GE175.out | refine below_set ?_ GE181.out) | exact HB.out)) hb); clear HO186; clear BK175; clear BK181; clear HB; have HO186 := n0_; have BK175 := n1_; have BK181 := n2_; have HB := n3_; clear n0_ n1_ n2_ n3_; (try clear hb); (try clear hb2); (try clear hk); (try clear hi); have hcz37_0 : w36.cell? ⟨gb181, 0, none⟩ = some (.int .i64 t176) := (blk_cell BK181.out 0).trans rfl; have hcz37_1 : w36.cell? ⟨gb181, 1, none⟩ = some (.int .i64 t177) := (blk_cell BK181.out 1).trans rfl; have hcz37_2 : w36.cell? ⟨gb181, 2, none⟩ = some (.int .i64 t178) := (blk_cell BK181.out 2).trans rfl; have hcz37_3 : w36.cell? ⟨gb181, 3, none⟩ = some (.int .i64 t179) := (blk_cell BK181.out 3).trans rfl; have hfz37_0 := blk_frozen BK181.out 0; have hfz37_1 := blk_frozen BK181.out 1; have hfz37_2 := blk_frozen BK181.out 2; have hfz37_3 := blk_frozen BK181.out 3) | ((with_reducible refine gate_dst (N := 70) rfl ?_); (try (refine gate_guard (by rfl) ?_; dsimp only)); refine Kd.R_lit (Kd.int .i64) _ 3 ?hg (N := 70) ?hd (xs := ([1, 2, 4, 5] : List Int)) (inner := [.int .i64 1, .int .i64 2, .int .i64 4, .int .i64 5]) (ok := fun _ => True) (okp := fun _ => True) ?hr ?hp (fun _ hk => hk) trivial (Below.refl _ _) (Nat.le_refl _) (by simp) ?_; (case hd => rfl); (case hg => rfl); (case hr => first | (go_simp; done) | (go_simp; rfl)); (case hp => exact (Reps.one (show Kd.M (Kd.int .i64) _ _ _ 1 [.int .i64 1] from rfl) (Reps.one (show Kd.M (Kd.int .i64) _ _ _ 2 [.int .i64 2] from rfl) (Reps.one (show Kd.M (Kd.int .i64) _ _ _ 4 [.int .i64 4] from rfl) (Reps.one (show Kd.M (Kd.int .i64) _ _ _ 5 [.int .i64 5] from rfl) (Reps.none _ _)))))); intro v197 w38 ho39 hb hg_ hnew_; clear hg_ hnew_; (first | rw [← Ny196.out] at ho39 | (simp only [Int.reduceToNat] at ho39; rw [← Ny196.out] at ho39)); have n0_ := Aside0.mk (Kd.R_elder' (by (with_reducible repeat (first | apply Kd.R_alloc | apply Kd.R_drewN | apply Kd.R_drew)); exact HO186.out) (Kd.R_base ho39) hb); have n1_ := Aside0.mk (Kd.R_lower (Kd.R_new' ho39 (Kd.R_lt (by (with_reducible repeat (first | apply Kd.R_alloc | apply Kd.R_drewN | apply Kd.R_drew)); exact HO186.out))) (below_size (by repeat (first | (with_reducible first | exact HB.out | apply below_alloc | apply pw_below_drewN | apply below_drew1 | refine below_set ?_ GE175.out | refine below_set ?_ GE181.out) | exact HB.out)))); have n2_ := Aside0.mk (blk_below (g := gb175) (o := .cells #[.int .i64 0, .int .i64 0, .int .i64 100, .int .i64 50, .int .i64 3, .int .i64 2] 25 (0, 0)) (by (with_reducible repeat (first | refine blk_drewN ?_ _ | refine blk_drew ?_ | refine blk_alloc ?_ _)); exact BK175.out) hb); have n3_ := Aside0.mk (blk_below (g := gb181) (o := .cells #[.int .i64 t176, .int .i64 t177, .int .i64 t178, .int .i64 t179] 27 (0, 0)) (by (with_reducible repeat (first | refine blk_drewN ?_ _ | refine blk_drew ?_ | refine blk_alloc ?_ _)); exact BK181.out) hb); have n4_ := Aside0.mk (below_step (by repeat (first | (with_reducible first | exact HB.out | apply below_alloc | apply pw_below_drewN | apply below_drew1 | refine below_set ?_ GE175.out | refine below_set ?_ GE181.out) | exact HB.out)) hb); clear HO186; clear BK175; clear BK181; clear HB; have HO186 := n0_; have HO198 := n1_; have BK175 := n2_; have BK181 := n3_; have HB := n4_; clear n0_ n1_ n2_ n3_ n4_; clear hb ho39; obtain ⟨Ao40, co40, eo40⟩ := Kd.R_slice HO186.out; subst eo40; obtain ⟨Ao41, co41, eo41⟩ := Kd.R_slice HO198.out; subst eo41) | (go_at_call 19; (with_reducible refine (mapsheetsref04_Same.calls k _ _ t184 _ _ y196 true _ ?side1 ?side2 ?side3 ?side4 A12.out).mono ?_); (case side1 => repeat (first | exact (Kd.R_reads' HO186.out).2.2 | (with_reducible refine Kd.C_alloc ?_ _) | (with_reducible refine Kd.C_drewN ?_ _) | (with_reducible refine Kd.C_drew ?_))); (case side2 => exact (Kd.R_reads' HO186.out).2.1); (case side3 => repeat (first | exact (Kd.R_reads' HO198.out).2.2 | (with_reducible refine Kd.C_alloc ?_ _) | (with_reducible refine Kd.C_drewN ?_ _) | (with_reducible refine Kd.C_drew ?_))); (case side4 => exact (Kd.R_reads' HO198.out).2.1); rintro e w' ⟨rfl, ⟨nd, rfl⟩⟩))
                      go_ret
                      exact ⟨by first | rfl | (simp [errW_none, errW_some] <;> rfl) | (simp [*, errW_none, errW_some] <;> rfl), by repeat (first | (with_reducible first | exact HB.out | apply below_alloc | apply pw_below_drewN | apply below_drew1 | refine below_set ?_ GE175.out | refine below_set ?_ GE181.out) | exact HB.out)⟩
                    · rw [if_neg c18] at H
                      exact absurd H (by simp)
                · replace c16 := Bool.eq_false_iff.mpr c16
                  subst c16
                  have H1 : (none) = some r := by rw [if_neg (show ¬ (false = true) by decide)] at H; exact H
                  clear H
                  have H := H1
                  clear H1
                  exact absurd H (by simp)
              · rw [if_neg c15] at H
                exact absurd H (by simp)
            · rw [if_neg c14] at H
              exact absurd H (by simp)
          · replace c13 := Bool.eq_false_iff.mpr c13
            subst c13
            have H1 : (none) = some r := by rw [if_neg (show ¬ (false = true) by decide)] at H; exact H
            clear H
            have H := H1
            clear H1
            exact absurd H (by simp)
        · rw [if_neg c11] at H
          exact absurd H (by simp)
      · rw [if_neg c10] at H
        exact absurd H (by simp)
    · rw [if_neg c9] at H
      exact absurd H (by simp)
  · rw [if_neg c8] at H
    exact absurd H (by simp)

end Go.Proofs.Yteinjjobeamijaa.P
