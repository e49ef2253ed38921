-- Written by wip/tools/xprint.py (this session's program, over the kit's print.py) for this seat.
import Derived.Test.YtijkaeonihgcfaaPx0
namespace Go.Proofs.Ytijkaeonihgcfaa.P
open Go.RowKit Go.Proofs.YtijkaeonihgcfaaW.PrintWords Go.Proofs.YtijkaeonihgcfaaW.PrintLast Go.Proofs.YtijkaeonihgcfaaW.PrintMore
attribute [local go_sem] max2_int min2_int max_two min_two max_three min_three max_four min_four   -- for this text's walks alone
set_option linter.unusedVariables false
set_option linter.unusedSimpArgs false

/-! ### glyph_shifts: function 41, by hand -/
def glyph_shifts.f : Option Unit := some ()
set_option maxHeartbeats 4000000 in
set_option maxRecDepth 100000 in
theorem glyph_shifts.calls (w : World) {r : Unit} (h : glyph_shifts.f = some r) :
    Calls Try.prog 41 #[] w fun e w' => e = .returned (.agg #[.int .i64 65, .int .i64 90, .int .i64 1, .int .i64 32, .int .i64 192, .int .i64 214, .int .i64 1, .int .i64 32, .int .i64 216, .int .i64 222, .int .i64 1, .int .i64 32, .int .i64 913, .int .i64 937, .int .i64 1, .int .i64 32, .int .i64 1040, .int .i64 1071, .int .i64 1, .int .i64 32, .int .i64 1024, .int .i64 1039, .int .i64 1, .int .i64 80, .int .i64 256, .int .i64 310, .int .i64 2, .int .i64 1, .int .i64 330, .int .i64 374, .int .i64 2, .int .i64 1, .int .i64 313, .int .i64 327, .int .i64 2, .int .i64 1, .int .i64 377, .int .i64 381, .int .i64 2, .int .i64 1, .int .i64 376, .int .i64 376, .int .i64 1, .int .i64 (-121)]) ∧ Below w.heap.size w w' := by
  go_enter Try.func41, Try.ntmps41
  go_wp2_with (refine wpList_store_row rfl 49 (.tmp 0) (.tmp 12) rfl w.heap.size #[.int .i64 65, .int .i64 90, .int .i64 1, .int .i64 32, .int .i64 192, .int .i64 214, .int .i64 1, .int .i64 32, .int .i64 216, .int .i64 222, .int .i64 1, .int .i64 32, .int .i64 913, .int .i64 937, .int .i64 1, .int .i64 32, .int .i64 1040, .int .i64 1071, .int .i64 1, .int .i64 32, .int .i64 1024, .int .i64 1039, .int .i64 1, .int .i64 80, .int .i64 256, .int .i64 310, .int .i64 2, .int .i64 1, .int .i64 330, .int .i64 374, .int .i64 2, .int .i64 1, .int .i64 313, .int .i64 327, .int .i64 2, .int .i64 1, .int .i64 377, .int .i64 381, .int .i64 2, .int .i64 1, .int .i64 376, .int .i64 376, .int .i64 1, .int .i64 (-121)] rfl rfl 49 _ (heap_alloc_new _ _) (by kernel_rfl) (by kernel_rfl) (by kernel_rfl) ?_)
  exact bodyPost_ret (results_cell_row rfl _ _ w.heap.size 49 #[.int .i64 65, .int .i64 90, .int .i64 1, .int .i64 32, .int .i64 192, .int .i64 214, .int .i64 1, .int .i64 32, .int .i64 216, .int .i64 222, .int .i64 1, .int .i64 32, .int .i64 913, .int .i64 937, .int .i64 1, .int .i64 32, .int .i64 1040, .int .i64 1071, .int .i64 1, .int .i64 32, .int .i64 1024, .int .i64 1039, .int .i64 1, .int .i64 80, .int .i64 256, .int .i64 310, .int .i64 2, .int .i64 1, .int .i64 330, .int .i64 374, .int .i64 2, .int .i64 1, .int .i64 313, .int .i64 327, .int .i64 2, .int .i64 1, .int .i64 377, .int .i64 381, .int .i64 2, .int .i64 1, .int .i64 376, .int .i64 376, .int .i64 1, .int .i64 (-121)] (0, 0) _ rfl (setRow_heap _ _ _ _ _ _ (heap_alloc_new _ _)) Try.underlying49 rfl (by kernel_rfl)) rfl ⟨rfl, setRow_below ((Below.refl _ _).alloc (Nat.le_refl _) _) (Nat.le_refl _) _⟩

/-! ### glyph_Fold: function 24 -/
def glyph_Fold.l0 : Nat → Int → Int → Option (Int)
 | 0, _, _ => none
 | k + 1, x0, x6 => if x6 < 11 then (if 0 ≤ x6 then (if x0 ≥ (rd [65, 192, 216, 913, 1040, 1024, 256, 330, 313, 377, 376] x6) then (if x0 ≤ (rd [90, 214, 222, 937, 1071, 1039, 310, 374, 327, 381, 376] x6) then (if (rd [1, 1, 1, 1, 1, 1, 2, 2, 2, 2, 1] x6) = 0 then (none) else (if (Int.tmod (wrap64 (x0 - (rd [65, 192, 216, 913, 1040, 1024, 256, 330, 313, 377, 376] x6))) (rd [1, 1, 1, 1, 1, 1, 2, 2, 2, 2, 1] x6)) = 0 then (some (wrap64 (x0 + (rd [32, 32, 32, 32, 32, 80, 1, 1, 1, 1, (-121)] x6)))) else (glyph_Fold.l0 k x0 (wrap64 (x6 + 1))))) else (glyph_Fold.l0 k x0 (wrap64 (x6 + 1)))) else (glyph_Fold.l0 k x0 (wrap64 (x6 + 1)))) else (none)) else (some x0)
def glyph_Fold.f (k : Nat) (a0 : Int) : Option (Int) := (glyph_shifts.f).bind fun _ => (glyph_Fold.l0 k a0 0)
theorem glyph_Fold.mono_l : ∀ k, (∀ y0 y1, LeO (glyph_Fold.l0 k y0 y1) (glyph_Fold.l0 (k + 1) y0 y1))
 | 0 => fun _ _ r h => by simp [glyph_Fold.l0] at h
 | k + 1 => by
  have ih0 := glyph_Fold.mono_l k
  ·intro y0 y1
   unfold glyph_Fold.l0
   repeat' first
   | (with_reducible exact ih0 _ _)
   | (with_reducible exact LeO.refl _)
   | (with_reducible exact LeO.none _)
   | (with_reducible refine LeO.ite ?_ ?_)
   | (with_reducible refine LeO.bind ?_ (fun _ => ?_))
   | exact ih0 _ _
   | exact LeO.none _
   | refine LeO.ite ?_ ?_
   | refine LeO.bind ?_ (fun _ => ?_)
theorem glyph_Fold.mono : ∀ a0 k, LeO (glyph_Fold.f k a0) (glyph_Fold.f (k + 1) a0) := by
 intro a0 k
 have ih0 := glyph_Fold.mono_l k
 unfold glyph_Fold.f
 repeat' first
   | (with_reducible exact ih0 _ _)
   | (with_reducible exact LeO.refl _)
   | (with_reducible exact LeO.none _)
   | (with_reducible refine LeO.ite ?_ ?_)
   | (with_reducible refine LeO.bind ?_ (fun _ => ?_))
   | exact ih0 _ _
   | exact LeO.none _
   | refine LeO.ite ?_ ?_
   | refine LeO.bind ?_ (fun _ => ?_)
set_option maxHeartbeats 8000000 in
set_option maxRecDepth 100000 in
theorem glyph_Fold.calls (k : Nat) (a0 : Int) (r : Int) (w : World) (h : glyph_Fold.f k a0 = some r) :
  Calls Try.prog 24 #[.int .i64 a0] w fun e w' => e = .returned (.int .i64 r) ∧ Below w.heap.size w w' := by
 have hu48 := Try.underlying48
 have HB := Aside0.mk (Below.refl w.heap.size w)
 have H : ((glyph_shifts.f).bind fun _ => (glyph_Fold.l0 k a0 0)) = some r := h
 clear h
 replace H := Option.bind_eq_some_iff.mp H
 obtain ⟨_, A20, H⟩ := H
 replace H : (glyph_Fold.l0 k a0 0) = some r := H
 have A2 := Aside0.mk A20
 clear A20
 have H' := Aside0.mk H
 clear H
 go_enter Try.func24, Try.ntmps24
 go_wp2_with (first | ((with_reducible refine gate_callee (f := 41) rfl ?_); refine goesL_ (some 5) rfl rfl Try.func41 (by kernel_rfl) rfl #[] rfl (by (try simp only [List.map_toArray, List.map_cons, List.map_nil]); first | done | rfl | (simp only [List.length_drop, List.length_take]; rfl)) ?_; (with_reducible refine (glyph_shifts.calls   _ A2.out).mono ?_); rintro e w3 ⟨rfl, hb⟩; refine ⟨_, rfl, ?_⟩; have n0_ := Aside0.mk (below_step (by repeat (first | (with_reducible first | exact HB.out | apply below_alloc | apply pw_below_drewN | apply below_drew1) | exact HB.out)) hb); clear HB; have HB := n0_; clear n0_; (try clear hb); (try clear hb2); (try clear hk); (try clear hi)))
 go_loopg [6] k (fun kq v6 w' => ∃ (x6_1 : Int), v6 = .int .i64 x6_1 ∧ Aside0 (glyph_Fold.l0 kq a0 x6_1 = some r) ∧ Aside0 (kq ≤ k) ∧ Aside0 (Below w.heap.size w w'))
 case atStart => exact ⟨(0), (by first | rfl | (simp; done) | (simp [*]; done)), H', ⟨Nat.le_refl _⟩, ⟨by repeat (first | (with_reducible first | exact HB.out | apply below_alloc | apply pw_below_drewN | apply below_drew1) | exact HB.out)⟩⟩
 case round =>
  clear H'
  try clear c2
  try clear p2
  obtain ⟨x6_1, rfl, HA, HK1, HB⟩ := hrel
  cases gk with
  | zero => exact absurd HA.out (by simp [glyph_Fold.l0])
  | succ k1 =>
   have H := HA.out
   clear HA
   simp only [glyph_Fold.l0] at H
   by_cases c4 : x6_1 < 11
   ·rw [if_pos c4] at H
    have c4b0 : decide (x6_1 < 11) = true := decide_eq_true c4
    clear c4
    by_cases c5 : 0 ≤ x6_1
    ·rw [if_pos c5] at H
     have c5b0 : decide (0 ≤ x6_1) = true := decide_eq_true c5
     clear c5
     by_cases c7 : a0 ≥ (rd [65, 192, 216, 913, 1040, 1024, 256, 330, 313, 377, 376] x6_1)
     ·rw [if_pos c7] at H
      have c7b0 : decide ((rd [65, 192, 216, 913, 1040, 1024, 256, 330, 313, 377, 376] x6_1) ≤ a0) = true := decide_eq_true c7
      clear c7
      by_cases c8 : a0 ≤ (rd [90, 214, 222, 937, 1071, 1039, 310, 374, 327, 381, 376] x6_1)
      ·rw [if_pos c8] at H
       have c8b0 : decide (a0 ≤ (rd [90, 214, 222, 937, 1071, 1039, 310, 374, 327, 381, 376] x6_1)) = true := decide_eq_true c8
       clear c8
       by_cases c9 : (rd [1, 1, 1, 1, 1, 1, 2, 2, 2, 2, 1] x6_1) = 0
       ·rw [if_pos c9] at H
        exact absurd H (by simp)
       ·rw [if_neg c9] at H
        have c9b0 : ((rd [1, 1, 1, 1, 1, 1, 2, 2, 2, 2, 1] x6_1) == 0) = false := beq_eq_false_iff_ne.mpr c9
        have c9b1 : ((rd [1, 1, 1, 1, 1, 1, 2, 2, 2, 2, 1] x6_1) != 0) = true := bne_iff_ne.mpr c9
        by_cases c10 : (Int.tmod (wrap64 (a0 - (rd [65, 192, 216, 913, 1040, 1024, 256, 330, 313, 377, 376] x6_1))) (rd [1, 1, 1, 1, 1, 1, 2, 2, 2, 2, 1] x6_1)) = 0
        ·rw [if_pos c10] at H
         have c10b0 : ((Int.tmod (wrap64 (a0 - (rd [65, 192, 216, 913, 1040, 1024, 256, 330, 313, 377, 376] x6_1))) (rd [1, 1, 1, 1, 1, 1, 2, 2, 2, 2, 1] x6_1)) == 0) = true := beq_iff_eq.mpr c10
         have c10b1 : ((Int.tmod (wrap64 (a0 - (rd [65, 192, 216, 913, 1040, 1024, 256, 330, 313, 377, 376] x6_1))) (rd [1, 1, 1, 1, 1, 1, 2, 2, 2, 2, 1] x6_1)) != 0) = false := bne_eq_false_iff_eq.mpr c10
         clear c10
         obtain rfl := Option.some.inj H
         have p6 : 0 ≤ (x6_1 : Int) := of_decide_eq_true (by first | (with_reducible assumption) | assumption)
         have q6 : x6_1 < (11 : Int) := of_decide_eq_true (by first | (with_reducible assumption) | assumption)
         have hx6 : ∀ W_ : World, (Instr.index 49 (.agg #[.int .i64 65, .int .i64 90, .int .i64 1, .int .i64 32, .int .i64 192, .int .i64 214, .int .i64 1, .int .i64 32, .int .i64 216, .int .i64 222, .int .i64 1, .int .i64 32, .int .i64 913, .int .i64 937, .int .i64 1, .int .i64 32, .int .i64 1040, .int .i64 1071, .int .i64 1, .int .i64 32, .int .i64 1024, .int .i64 1039, .int .i64 1, .int .i64 80, .int .i64 256, .int .i64 310, .int .i64 2, .int .i64 1, .int .i64 330, .int .i64 374, .int .i64 2, .int .i64 1, .int .i64 313, .int .i64 327, .int .i64 2, .int .i64 1, .int .i64 377, .int .i64 381, .int .i64 2, .int .i64 1, .int .i64 376, .int .i64 376, .int .i64 1, .int .i64 (-121)]) (.int .i64 x6_1)).run Try.prog W_ = .ok (.agg #[.int .i64 (rd [65, 192, 216, 913, 1040, 1024, 256, 330, 313, 377, 376] x6_1), .int .i64 (rd [90, 214, 222, 937, 1071, 1039, 310, 374, 327, 381, 376] x6_1), .int .i64 (rd [1, 1, 1, 1, 1, 1, 2, 2, 2, 2, 1] x6_1), .int .i64 (rd [32, 32, 32, 32, 32, 80, 1, 1, 1, 1, (-121)] x6_1)]) W_ := (by intro W_; generalize x6_1 = jj_ at p6 q6 ⊢; rcases (show jj_ = 0 ∨ jj_ = 1 ∨ jj_ = 2 ∨ jj_ = 3 ∨ jj_ = 4 ∨ jj_ = 5 ∨ jj_ = 6 ∨ jj_ = 7 ∨ jj_ = 8 ∨ jj_ = 9 ∨ jj_ = 10 by omega) with hj_ | hj_ | hj_ | hj_ | hj_ | hj_ | hj_ | hj_ | hj_ | hj_ | hj_ <;> subst hj_ <;> (show _ = _; kernel_rfl))
         replace p6 := eq_true p6
         replace q6 := eq_true q6
         go_wp2_with (first | ((with_reducible refine gate_dst (N := 4) rfl ?_); refine box_event ?hg (N := 4) ?hd (cs := #[.int .i64 0, .int .i64 0, .int .i64 0, .int .i64 0]) (t := 48) ?hr ?_; (case hd => rfl); (case hg => rfl); (case hr => first | (go_simp; done) | (go_simp; rfl)); intro gb101 hg w11 hbox hb; have n0_ := Aside0.mk (below_step (by repeat (first | (with_reducible first | exact HB.out | apply below_alloc | apply pw_below_drewN | apply below_drew1) | exact HB.out)) hb); have n1_ := Aside0.mk (hbox); have n2_ := Aside0.mk ((by rw [hg]; exact (below_size (by repeat (first | (with_reducible first | exact HB.out | apply below_alloc | apply pw_below_drewN | apply below_drew1) | exact HB.out))) : w.heap.size ≤ gb101)); have n3_ := Aside0.mk ((by rw [hg]; exact (below_size (by repeat (first | (with_reducible first | exact HB.out | apply below_alloc | apply pw_below_drewN | apply below_drew1) | exact HB.out))) : w.heap.size ≤ gb101)); clear HB; have HB := n0_; have BK101 := n1_; have GW101 := n2_; have GE101 := n3_; clear n0_ n1_ n2_ n3_; clear hb hbox hg; have hcz12_0 : w11.cell? ⟨gb101, 0, none⟩ = some (.int .i64 0) := (blk_cell BK101.out 0).trans rfl; have hcz12_1 : w11.cell? ⟨gb101, 1, none⟩ = some (.int .i64 0) := (blk_cell BK101.out 1).trans rfl; have hcz12_2 : w11.cell? ⟨gb101, 2, none⟩ = some (.int .i64 0) := (blk_cell BK101.out 2).trans rfl; have hcz12_3 : w11.cell? ⟨gb101, 3, none⟩ = some (.int .i64 0) := (blk_cell BK101.out 3).trans rfl; have hfz12_0 := blk_frozen BK101.out 0; have hfz12_1 := blk_frozen BK101.out 1; have hfz12_2 := blk_frozen BK101.out 2; have hfz12_3 := blk_frozen BK101.out 3))
         go_ret
         exact ⟨by first | rfl | (simp [errW_none, errW_some] <;> rfl) | (simp [*, errW_none, errW_some] <;> rfl), by repeat (first | (with_reducible first | exact HB.out | apply below_alloc | apply pw_below_drewN | apply below_drew1 | refine below_set ?_ GE101.out) | exact HB.out)⟩
        ·rw [if_neg c10] at H
         have c10b0 : ((Int.tmod (wrap64 (a0 - (rd [65, 192, 216, 913, 1040, 1024, 256, 330, 313, 377, 376] x6_1))) (rd [1, 1, 1, 1, 1, 1, 2, 2, 2, 2, 1] x6_1)) == 0) = false := beq_eq_false_iff_ne.mpr c10
         have c10b1 : ((Int.tmod (wrap64 (a0 - (rd [65, 192, 216, 913, 1040, 1024, 256, 330, 313, 377, 376] x6_1))) (rd [1, 1, 1, 1, 1, 1, 2, 2, 2, 2, 1] x6_1)) != 0) = true := bne_iff_ne.mpr c10
         have H' := Aside0.mk H
         clear H
         have p6 : 0 ≤ (x6_1 : Int) := of_decide_eq_true (by first | (with_reducible assumption) | assumption)
         have q6 : x6_1 < (11 : Int) := of_decide_eq_true (by first | (with_reducible assumption) | assumption)
         have hx6 : ∀ W_ : World, (Instr.index 49 (.agg #[.int .i64 65, .int .i64 90, .int .i64 1, .int .i64 32, .int .i64 192, .int .i64 214, .int .i64 1, .int .i64 32, .int .i64 216, .int .i64 222, .int .i64 1, .int .i64 32, .int .i64 913, .int .i64 937, .int .i64 1, .int .i64 32, .int .i64 1040, .int .i64 1071, .int .i64 1, .int .i64 32, .int .i64 1024, .int .i64 1039, .int .i64 1, .int .i64 80, .int .i64 256, .int .i64 310, .int .i64 2, .int .i64 1, .int .i64 330, .int .i64 374, .int .i64 2, .int .i64 1, .int .i64 313, .int .i64 327, .int .i64 2, .int .i64 1, .int .i64 377, .int .i64 381, .int .i64 2, .int .i64 1, .int .i64 376, .int .i64 376, .int .i64 1, .int .i64 (-121)]) (.int .i64 x6_1)).run Try.prog W_ = .ok (.agg #[.int .i64 (rd [65, 192, 216, 913, 1040, 1024, 256, 330, 313, 377, 376] x6_1), .int .i64 (rd [90, 214, 222, 937, 1071, 1039, 310, 374, 327, 381, 376] x6_1), .int .i64 (rd [1, 1, 1, 1, 1, 1, 2, 2, 2, 2, 1] x6_1), .int .i64 (rd [32, 32, 32, 32, 32, 80, 1, 1, 1, 1, (-121)] x6_1)]) W_ := (by intro W_; generalize x6_1 = jj_ at p6 q6 ⊢; rcases (show jj_ = 0 ∨ jj_ = 1 ∨ jj_ = 2 ∨ jj_ = 3 ∨ jj_ = 4 ∨ jj_ = 5 ∨ jj_ = 6 ∨ jj_ = 7 ∨ jj_ = 8 ∨ jj_ = 9 ∨ jj_ = 10 by omega) with hj_ | hj_ | hj_ | hj_ | hj_ | hj_ | hj_ | hj_ | hj_ | hj_ | hj_ <;> subst hj_ <;> (show _ = _; kernel_rfl))
         replace p6 := eq_true p6
         replace q6 := eq_true q6
         go_wp2_with (first | ((with_reducible refine gate_dst (N := 4) rfl ?_); refine box_event ?hg (N := 4) ?hd (cs := #[.int .i64 0, .int .i64 0, .int .i64 0, .int .i64 0]) (t := 48) ?hr ?_; (case hd => rfl); (case hg => rfl); (case hr => first | (go_simp; done) | (go_simp; rfl)); intro gb101 hg w13 hbox hb; have n0_ := Aside0.mk (below_step (by repeat (first | (with_reducible first | exact HB.out | apply below_alloc | apply pw_below_drewN | apply below_drew1) | exact HB.out)) hb); have n1_ := Aside0.mk (hbox); have n2_ := Aside0.mk ((by rw [hg]; exact (below_size (by repeat (first | (with_reducible first | exact HB.out | apply below_alloc | apply pw_below_drewN | apply below_drew1) | exact HB.out))) : w.heap.size ≤ gb101)); have n3_ := Aside0.mk ((by rw [hg]; exact (below_size (by repeat (first | (with_reducible first | exact HB.out | apply below_alloc | apply pw_below_drewN | apply below_drew1) | exact HB.out))) : w.heap.size ≤ gb101)); clear HB; have HB := n0_; have BK101 := n1_; have GW101 := n2_; have GE101 := n3_; clear n0_ n1_ n2_ n3_; clear hb hbox hg; have hcz14_0 : w13.cell? ⟨gb101, 0, none⟩ = some (.int .i64 0) := (blk_cell BK101.out 0).trans rfl; have hcz14_1 : w13.cell? ⟨gb101, 1, none⟩ = some (.int .i64 0) := (blk_cell BK101.out 1).trans rfl; have hcz14_2 : w13.cell? ⟨gb101, 2, none⟩ = some (.int .i64 0) := (blk_cell BK101.out 2).trans rfl; have hcz14_3 : w13.cell? ⟨gb101, 3, none⟩ = some (.int .i64 0) := (blk_cell BK101.out 3).trans rfl; have hfz14_0 := blk_frozen BK101.out 0; have hfz14_1 := blk_frozen BK101.out 1; have hfz14_2 := blk_frozen BK101.out 2; have hfz14_3 := blk_frozen BK101.out 3))
         go_roundg k1
         case measure => have := HK1.out; omega
         case rel => exact ⟨(wrap64 (x6_1 + 1)), (by first | rfl | (simp; done) | (simp [*]; done)), H', ⟨by have := HK1.out; omega⟩, ⟨by repeat (first | (with_reducible first | exact HB.out | apply below_alloc | apply pw_below_drewN | apply below_drew1 | refine below_set ?_ GE101.out) | exact HB.out)⟩⟩
      ·rw [if_neg c8] at H
       have c8b0 : decide (a0 ≤ (rd [90, 214, 222, 937, 1071, 1039, 310, 374, 327, 381, 376] x6_1)) = false := decide_eq_false c8
       clear c8
       have H' := Aside0.mk H
       clear H
       have p6 : 0 ≤ (x6_1 : Int) := of_decide_eq_true (by first | (with_reducible assumption) | assumption)
       have q6 : x6_1 < (11 : Int) := of_decide_eq_true (by first | (with_reducible assumption) | assumption)
       have hx6 : ∀ W_ : World, (Instr.index 49 (.agg #[.int .i64 65, .int .i64 90, .int .i64 1, .int .i64 32, .int .i64 192, .int .i64 214, .int .i64 1, .int .i64 32, .int .i64 216, .int .i64 222, .int .i64 1, .int .i64 32, .int .i64 913, .int .i64 937, .int .i64 1, .int .i64 32, .int .i64 1040, .int .i64 1071, .int .i64 1, .int .i64 32, .int .i64 1024, .int .i64 1039, .int .i64 1, .int .i64 80, .int .i64 256, .int .i64 310, .int .i64 2, .int .i64 1, .int .i64 330, .int .i64 374, .int .i64 2, .int .i64 1, .int .i64 313, .int .i64 327, .int .i64 2, .int .i64 1, .int .i64 377, .int .i64 381, .int .i64 2, .int .i64 1, .int .i64 376, .int .i64 376, .int .i64 1, .int .i64 (-121)]) (.int .i64 x6_1)).run Try.prog W_ = .ok (.agg #[.int .i64 (rd [65, 192, 216, 913, 1040, 1024, 256, 330, 313, 377, 376] x6_1), .int .i64 (rd [90, 214, 222, 937, 1071, 1039, 310, 374, 327, 381, 376] x6_1), .int .i64 (rd [1, 1, 1, 1, 1, 1, 2, 2, 2, 2, 1] x6_1), .int .i64 (rd [32, 32, 32, 32, 32, 80, 1, 1, 1, 1, (-121)] x6_1)]) W_ := (by intro W_; generalize x6_1 = jj_ at p6 q6 ⊢; rcases (show jj_ = 0 ∨ jj_ = 1 ∨ jj_ = 2 ∨ jj_ = 3 ∨ jj_ = 4 ∨ jj_ = 5 ∨ jj_ = 6 ∨ jj_ = 7 ∨ jj_ = 8 ∨ jj_ = 9 ∨ jj_ = 10 by omega) with hj_ | hj_ | hj_ | hj_ | hj_ | hj_ | hj_ | hj_ | hj_ | hj_ | hj_ <;> subst hj_ <;> (show _ = _; kernel_rfl))
       replace p6 := eq_true p6
       replace q6 := eq_true q6
       go_wp2_with (first | ((with_reducible refine gate_dst (N := 4) rfl ?_); refine box_event ?hg (N := 4) ?hd (cs := #[.int .i64 0, .int .i64 0, .int .i64 0, .int .i64 0]) (t := 48) ?hr ?_; (case hd => rfl); (case hg => rfl); (case hr => first | (go_simp; done) | (go_simp; rfl)); intro gb101 hg w15 hbox hb; have n0_ := Aside0.mk (below_step (by repeat (first | (with_reducible first | exact HB.out | apply below_alloc | apply pw_below_drewN | apply below_drew1) | exact HB.out)) hb); have n1_ := Aside0.mk (hbox); have n2_ := Aside0.mk ((by rw [hg]; exact (below_size (by repeat (first | (with_reducible first | exact HB.out | apply below_alloc | apply pw_below_drewN | apply below_drew1) | exact HB.out))) : w.heap.size ≤ gb101)); have n3_ := Aside0.mk ((by rw [hg]; exact (below_size (by repeat (first | (with_reducible first | exact HB.out | apply below_alloc | apply pw_below_drewN | apply below_drew1) | exact HB.out))) : w.heap.size ≤ gb101)); clear HB; have HB := n0_; have BK101 := n1_; have GW101 := n2_; have GE101 := n3_; clear n0_ n1_ n2_ n3_; clear hb hbox hg; have hcz16_0 : w15.cell? ⟨gb101, 0, none⟩ = some (.int .i64 0) := (blk_cell BK101.out 0).trans rfl; have hcz16_1 : w15.cell? ⟨gb101, 1, none⟩ = some (.int .i64 0) := (blk_cell BK101.out 1).trans rfl; have hcz16_2 : w15.cell? ⟨gb101, 2, none⟩ = some (.int .i64 0) := (blk_cell BK101.out 2).trans rfl; have hcz16_3 : w15.cell? ⟨gb101, 3, none⟩ = some (.int .i64 0) := (blk_cell BK101.out 3).trans rfl; have hfz16_0 := blk_frozen BK101.out 0; have hfz16_1 := blk_frozen BK101.out 1; have hfz16_2 := blk_frozen BK101.out 2; have hfz16_3 := blk_frozen BK101.out 3))
       go_roundg k1
       case measure => have := HK1.out; omega
       case rel => exact ⟨(wrap64 (x6_1 + 1)), (by first | rfl | (simp; done) | (simp [*]; done)), H', ⟨by have := HK1.out; omega⟩, ⟨by repeat (first | (with_reducible first | exact HB.out | apply below_alloc | apply pw_below_drewN | apply below_drew1 | refine below_set ?_ GE101.out) | exact HB.out)⟩⟩
     ·rw [if_neg c7] at H
      have c7b0 : decide ((rd [65, 192, 216, 913, 1040, 1024, 256, 330, 313, 377, 376] x6_1) ≤ a0) = false := decide_eq_false c7
      clear c7
      have H' := Aside0.mk H
      clear H
      have p6 : 0 ≤ (x6_1 : Int) := of_decide_eq_true (by first | (with_reducible assumption) | assumption)
      have q6 : x6_1 < (11 : Int) := of_decide_eq_true (by first | (with_reducible assumption) | assumption)
      have hx6 : ∀ W_ : World, (Instr.index 49 (.agg #[.int .i64 65, .int .i64 90, .int .i64 1, .int .i64 32, .int .i64 192, .int .i64 214, .int .i64 1, .int .i64 32, .int .i64 216, .int .i64 222, .int .i64 1, .int .i64 32, .int .i64 913, .int .i64 937, .int .i64 1, .int .i64 32, .int .i64 1040, .int .i64 1071, .int .i64 1, .int .i64 32, .int .i64 1024, .int .i64 1039, .int .i64 1, .int .i64 80, .int .i64 256, .int .i64 310, .int .i64 2, .int .i64 1, .int .i64 330, .int .i64 374, .int .i64 2, .int .i64 1, .int .i64 313, .int .i64 327, .int .i64 2, .int .i64 1, .int .i64 377, .int .i64 381, .int .i64 2, .int .i64 1, .int .i64 376, .int .i64 376, .int .i64 1, .int .i64 (-121)]) (.int .i64 x6_1)).run Try.prog W_ = .ok (.agg #[.int .i64 (rd [65, 192, 216, 913, 1040, 1024, 256, 330, 313, 377, 376] x6_1), .int .i64 (rd [90, 214, 222, 937, 1071, 1039, 310, 374, 327, 381, 376] x6_1), .int .i64 (rd [1, 1, 1, 1, 1, 1, 2, 2, 2, 2, 1] x6_1), .int .i64 (rd [32, 32, 32, 32, 32, 80, 1, 1, 1, 1, (-121)] x6_1)]) W_ := (by intro W_; generalize x6_1 = jj_ at p6 q6 ⊢; rcases (show jj_ = 0 ∨ jj_ = 1 ∨ jj_ = 2 ∨ jj_ = 3 ∨ jj_ = 4 ∨ jj_ = 5 ∨ jj_ = 6 ∨ jj_ = 7 ∨ jj_ = 8 ∨ jj_ = 9 ∨ jj_ = 10 by omega) with hj_ | hj_ | hj_ | hj_ | hj_ | hj_ | hj_ | hj_ | hj_ | hj_ | hj_ <;> subst hj_ <;> (show _ = _; kernel_rfl))
      replace p6 := eq_true p6
      replace q6 := eq_true q6
      go_wp2_with (first | ((with_reducible refine gate_dst (N := 4) rfl ?_); refine box_event ?hg (N := 4) ?hd (cs := #[.int .i64 0, .int .i64 0, .int .i64 0, .int .i64 0]) (t := 48) ?hr ?_; (case hd => rfl); (case hg => rfl); (case hr => first | (go_simp; done) | (go_simp; rfl)); intro gb101 hg w17 hbox hb; have n0_ := Aside0.mk (below_step (by repeat (first | (with_reducible first | exact HB.out | apply below_alloc | apply pw_below_drewN | apply below_drew1) | exact HB.out)) hb); have n1_ := Aside0.mk (hbox); have n2_ := Aside0.mk ((by rw [hg]; exact (below_size (by repeat (first | (with_reducible first | exact HB.out | apply below_alloc | apply pw_below_drewN | apply below_drew1) | exact HB.out))) : w.heap.size ≤ gb101)); have n3_ := Aside0.mk ((by rw [hg]; exact (below_size (by repeat (first | (with_reducible first | exact HB.out | apply below_alloc | apply pw_below_drewN | apply below_drew1) | exact HB.out))) : w.heap.size ≤ gb101)); clear HB; have HB := n0_; have BK101 := n1_; have GW101 := n2_; have GE101 := n3_; clear n0_ n1_ n2_ n3_; clear hb hbox hg; have hcz18_0 : w17.cell? ⟨gb101, 0, none⟩ = some (.int .i64 0) := (blk_cell BK101.out 0).trans rfl; have hcz18_1 : w17.cell? ⟨gb101, 1, none⟩ = some (.int .i64 0) := (blk_cell BK101.out 1).trans rfl; have hcz18_2 : w17.cell? ⟨gb101, 2, none⟩ = some (.int .i64 0) := (blk_cell BK101.out 2).trans rfl; have hcz18_3 : w17.cell? ⟨gb101, 3, none⟩ = some (.int .i64 0) := (blk_cell BK101.out 3).trans rfl; have hfz18_0 := blk_frozen BK101.out 0; have hfz18_1 := blk_frozen BK101.out 1; have hfz18_2 := blk_frozen BK101.out 2; have hfz18_3 := blk_frozen BK101.out 3))
      go_roundg k1
      case measure => have := HK1.out; omega
      case rel => exact ⟨(wrap64 (x6_1 + 1)), (by first | rfl | (simp; done) | (simp [*]; done)), H', ⟨by have := HK1.out; omega⟩, ⟨by repeat (first | (with_reducible first | exact HB.out | apply below_alloc | apply pw_below_drewN | apply below_drew1 | refine below_set ?_ GE101.out) | exact HB.out)⟩⟩
    ·rw [if_neg c5] at H
     exact absurd H (by simp)
   ·rw [if_neg c4] at H
    have c4b0 : decide (x6_1 < 11) = false := decide_eq_false c4
    clear c4
    obtain rfl := Option.some.inj H
    go_wp2
    go_ret
    exact ⟨by first | rfl | (simp [errW_none, errW_some] <;> rfl) | (simp [*, errW_none, errW_some] <;> rfl), by repeat (first | (with_reducible first | exact HB.out | apply below_alloc | apply pw_below_drewN | apply below_drew1) | exact HB.out)⟩

/-! ### glyph_blocks: function 51, by hand -/
def glyph_blocks.f : Option Unit := some ()
set_option maxHeartbeats 4000000 in
set_option maxRecDepth 100000 in
theorem glyph_blocks.calls (w : World) {r : Unit} (h : glyph_blocks.f = some r) :
    Calls Try.prog 51 #[] w fun e w' => e = .returned (.agg #[.int .i32 32, .int .i32 32, .int .i64 0, .int .i32 39, .int .i32 41, .int .i64 0, .int .i32 45, .int .i32 46, .int .i64 0, .int .i32 48, .int .i32 57, .int .i64 0, .int .i32 65, .int .i32 90, .int .i64 1, .int .i32 97, .int .i32 122, .int .i64 1, .int .i32 192, .int .i32 214, .int .i64 1, .int .i32 216, .int .i32 246, .int .i64 1, .int .i32 248, .int .i32 591, .int .i64 1, .int .i32 880, .int .i32 1023, .int .i64 2, .int .i32 1024, .int .i32 1279, .int .i64 3, .int .i32 1488, .int .i32 1514, .int .i64 4, .int .i32 19968, .int .i32 40959, .int .i64 5]) ∧ Below w.heap.size w w' := by
  go_enter Try.func51, Try.ntmps51
  go_wp2_with (refine wpList_store_row rfl 55 (.tmp 0) (.tmp 14) rfl w.heap.size #[.int .i32 32, .int .i32 32, .int .i64 0, .int .i32 39, .int .i32 41, .int .i64 0, .int .i32 45, .int .i32 46, .int .i64 0, .int .i32 48, .int .i32 57, .int .i64 0, .int .i32 65, .int .i32 90, .int .i64 1, .int .i32 97, .int .i32 122, .int .i64 1, .int .i32 192, .int .i32 214, .int .i64 1, .int .i32 216, .int .i32 246, .int .i64 1, .int .i32 248, .int .i32 591, .int .i64 1, .int .i32 880, .int .i32 1023, .int .i64 2, .int .i32 1024, .int .i32 1279, .int .i64 3, .int .i32 1488, .int .i32 1514, .int .i64 4, .int .i32 19968, .int .i32 40959, .int .i64 5] rfl rfl 55 _ (heap_alloc_new _ _) (by kernel_rfl) (by kernel_rfl) (by kernel_rfl) ?_)
  exact bodyPost_ret (results_cell_row rfl _ _ w.heap.size 55 #[.int .i32 32, .int .i32 32, .int .i64 0, .int .i32 39, .int .i32 41, .int .i64 0, .int .i32 45, .int .i32 46, .int .i64 0, .int .i32 48, .int .i32 57, .int .i64 0, .int .i32 65, .int .i32 90, .int .i64 1, .int .i32 97, .int .i32 122, .int .i64 1, .int .i32 192, .int .i32 214, .int .i64 1, .int .i32 216, .int .i32 246, .int .i64 1, .int .i32 248, .int .i32 591, .int .i64 1, .int .i32 880, .int .i32 1023, .int .i64 2, .int .i32 1024, .int .i32 1279, .int .i64 3, .int .i32 1488, .int .i32 1514, .int .i64 4, .int .i32 19968, .int .i32 40959, .int .i64 5] (0, 0) _ rfl (setRow_heap _ _ _ _ _ _ (heap_alloc_new _ _)) Try.underlying55 rfl (by kernel_rfl)) rfl ⟨rfl, setRow_below ((Below.refl _ _).alloc (Nat.le_refl _) _) (Nat.le_refl _) _⟩

/-! ### glyph_Script: function 40 -/
def glyph_Script.l0 : Nat → Int → Int → Option (Int)
 | 0, _, _ => none
 | k + 1, x0, x6 => if x6 < 13 then (if 0 ≤ x6 then (if x0 ≥ (wrap64 (rd [32, 39, 45, 48, 65, 97, 192, 216, 248, 880, 1024, 1488, 19968] x6)) then (if x0 ≤ (wrap64 (rd [32, 41, 46, 57, 90, 122, 214, 246, 591, 1023, 1279, 1514, 40959] x6)) then (some (rd [0, 0, 0, 0, 1, 1, 1, 1, 1, 2, 3, 4, 5] x6)) else (glyph_Script.l0 k x0 (wrap64 (x6 + 1)))) else (glyph_Script.l0 k x0 (wrap64 (x6 + 1)))) else (none)) else (some (-1))
def glyph_Script.f (k : Nat) (a0 : Int) : Option (Int) := (glyph_blocks.f).bind fun _ => (glyph_Script.l0 k a0 0)
theorem glyph_Script.mono_l : ∀ k, (∀ y0 y1, LeO (glyph_Script.l0 k y0 y1) (glyph_Script.l0 (k + 1) y0 y1))
 | 0 => fun _ _ r h => by simp [glyph_Script.l0] at h
 | k + 1 => by
  have ih0 := glyph_Script.mono_l k
  ·intro y0 y1
   unfold glyph_Script.l0
   repeat' first
   | (with_reducible exact ih0 _ _)
   | (with_reducible exact LeO.refl _)
   | (with_reducible exact LeO.none _)
   | (with_reducible refine LeO.ite ?_ ?_)
   | (with_reducible refine LeO.bind ?_ (fun _ => ?_))
   | exact ih0 _ _
   | exact LeO.none _
   | refine LeO.ite ?_ ?_
   | refine LeO.bind ?_ (fun _ => ?_)
theorem glyph_Script.mono : ∀ a0 k, LeO (glyph_Script.f k a0) (glyph_Script.f (k + 1) a0) := by
 intro a0 k
 have ih0 := glyph_Script.mono_l k
 unfold glyph_Script.f
 repeat' first
   | (with_reducible exact ih0 _ _)
   | (with_reducible exact LeO.refl _)
   | (with_reducible exact LeO.none _)
   | (with_reducible refine LeO.ite ?_ ?_)
   | (with_reducible refine LeO.bind ?_ (fun _ => ?_))
   | exact ih0 _ _
   | exact LeO.none _
   | refine LeO.ite ?_ ?_
   | refine LeO.bind ?_ (fun _ => ?_)
set_option maxHeartbeats 8000000 in
set_option maxRecDepth 100000 in
theorem glyph_Script.calls (k : Nat) (a0 : Int) (r : Int) (w : World) (h : glyph_Script.f k a0 = some r) :
  Calls Try.prog 40 #[.int .i64 a0] w fun e w' => e = .returned (.int .i64 r) ∧ Below w.heap.size w w' := by
 have hu54 := Try.underlying54
 have HB := Aside0.mk (Below.refl w.heap.size w)
 have H : ((glyph_blocks.f).bind fun _ => (glyph_Script.l0 k a0 0)) = some r := h
 clear h
 replace H := Option.bind_eq_some_iff.mp H
 obtain ⟨_, A20, H⟩ := H
 replace H : (glyph_Script.l0 k a0 0) = some r := H
 have A2 := Aside0.mk A20
 clear A20
 have H' := Aside0.mk H
 clear H
 go_enter Try.func40, Try.ntmps40
 go_wp2_with (first | ((with_reducible refine gate_callee (f := 51) rfl ?_); refine goesL_ (some 5) rfl rfl Try.func51 (by kernel_rfl) rfl #[] rfl (by (try simp only [List.map_toArray, List.map_cons, List.map_nil]); first | done | rfl | (simp only [List.length_drop, List.length_take]; rfl)) ?_; (with_reducible refine (glyph_blocks.calls   _ A2.out).mono ?_); rintro e w3 ⟨rfl, hb⟩; refine ⟨_, rfl, ?_⟩; have n0_ := Aside0.mk (below_step (by repeat (first | (with_reducible first | exact HB.out | apply below_alloc | apply pw_below_drewN | apply below_drew1) | exact HB.out)) hb); clear HB; have HB := n0_; clear n0_; (try clear hb); (try clear hb2); (try clear hk); (try clear hi)))
 go_loopg [6] k (fun kq v6 w' => ∃ (x6_1 : Int), v6 = .int .i64 x6_1 ∧ Aside0 (glyph_Script.l0 kq a0 x6_1 = some r) ∧ Aside0 (kq ≤ k) ∧ Aside0 (Below w.heap.size w w'))
 case atStart => exact ⟨(0), (by first | rfl | (simp; done) | (simp [*]; done)), H', ⟨Nat.le_refl _⟩, ⟨by repeat (first | (with_reducible first | exact HB.out | apply below_alloc | apply pw_below_drewN | apply below_drew1) | exact HB.out)⟩⟩
 case round =>
  clear H'
  try clear p2
  obtain ⟨x6_1, rfl, HA, HK1, HB⟩ := hrel
  cases gk with
  | zero => exact absurd HA.out (by simp [glyph_Script.l0])
  | succ k1 =>
   have H := HA.out
   clear HA
   simp only [glyph_Script.l0] at H
   by_cases c4 : x6_1 < 13
   ·rw [if_pos c4] at H
    have c4b0 : decide (x6_1 < 13) = true := decide_eq_true c4
    clear c4
    by_cases c5 : 0 ≤ x6_1
    ·rw [if_pos c5] at H
     have c5b0 : decide (0 ≤ x6_1) = true := decide_eq_true c5
     clear c5
     by_cases c7 : a0 ≥ (wrap64 (rd [32, 39, 45, 48, 65, 97, 192, 216, 248, 880, 1024, 1488, 19968] x6_1))
     ·rw [if_pos c7] at H
      have c7b0 : decide ((wrap64 (rd [32, 39, 45, 48, 65, 97, 192, 216, 248, 880, 1024, 1488, 19968] x6_1)) ≤ a0) = true := decide_eq_true c7
      clear c7
      by_cases c8 : a0 ≤ (wrap64 (rd [32, 41, 46, 57, 90, 122, 214, 246, 591, 1023, 1279, 1514, 40959] x6_1))
      ·rw [if_pos c8] at H
       have c8b0 : decide (a0 ≤ (wrap64 (rd [32, 41, 46, 57, 90, 122, 214, 246, 591, 1023, 1279, 1514, 40959] x6_1))) = true := decide_eq_true c8
       clear c8
       obtain rfl := Option.some.inj H
       have p6 : 0 ≤ (x6_1 : Int) := of_decide_eq_true (by first | (with_reducible assumption) | assumption)
       have q6 : x6_1 < (13 : Int) := of_decide_eq_true (by first | (with_reducible assumption) | assumption)
       have hx6 : ∀ W_ : World, (Instr.index 55 (.agg #[.int .i32 32, .int .i32 32, .int .i64 0, .int .i32 39, .int .i32 41, .int .i64 0, .int .i32 45, .int .i32 46, .int .i64 0, .int .i32 48, .int .i32 57, .int .i64 0, .int .i32 65, .int .i32 90, .int .i64 1, .int .i32 97, .int .i32 122, .int .i64 1, .int .i32 192, .int .i32 214, .int .i64 1, .int .i32 216, .int .i32 246, .int .i64 1, .int .i32 248, .int .i32 591, .int .i64 1, .int .i32 880, .int .i32 1023, .int .i64 2, .int .i32 1024, .int .i32 1279, .int .i64 3, .int .i32 1488, .int .i32 1514, .int .i64 4, .int .i32 19968, .int .i32 40959, .int .i64 5]) (.int .i64 x6_1)).run Try.prog W_ = .ok (.agg #[.int .i32 (rd [32, 39, 45, 48, 65, 97, 192, 216, 248, 880, 1024, 1488, 19968] x6_1), .int .i32 (rd [32, 41, 46, 57, 90, 122, 214, 246, 591, 1023, 1279, 1514, 40959] x6_1), .int .i64 (rd [0, 0, 0, 0, 1, 1, 1, 1, 1, 2, 3, 4, 5] x6_1)]) W_ := (by intro W_; generalize x6_1 = jj_ at p6 q6 ⊢; rcases (show jj_ = 0 ∨ jj_ = 1 ∨ jj_ = 2 ∨ jj_ = 3 ∨ jj_ = 4 ∨ jj_ = 5 ∨ jj_ = 6 ∨ jj_ = 7 ∨ jj_ = 8 ∨ jj_ = 9 ∨ jj_ = 10 ∨ jj_ = 11 ∨ jj_ = 12 by omega) with hj_ | hj_ | hj_ | hj_ | hj_ | hj_ | hj_ | hj_ | hj_ | hj_ | hj_ | hj_ | hj_ <;> subst hj_ <;> (show _ = _; kernel_rfl))
       replace p6 := eq_true p6
       replace q6 := eq_true q6
       go_wp2_with (first | ((with_reducible refine gate_dst (N := 4) rfl ?_); refine box_event ?hg (N := 4) ?hd (cs := #[.int .i32 0, .int .i32 0, .int .i64 0]) (t := 54) ?hr ?_; (case hd => rfl); (case hg => rfl); (case hr => first | (go_simp; done) | (go_simp; rfl)); intro gb102 hg w9 hbox hb; have n0_ := Aside0.mk (below_step (by repeat (first | (with_reducible first | exact HB.out | apply below_alloc | apply pw_below_drewN | apply below_drew1) | exact HB.out)) hb); have n1_ := Aside0.mk (hbox); have n2_ := Aside0.mk ((by rw [hg]; exact (below_size (by repeat (first | (with_reducible first | exact HB.out | apply below_alloc | apply pw_below_drewN | apply below_drew1) | exact HB.out))) : w.heap.size ≤ gb102)); have n3_ := Aside0.mk ((by rw [hg]; exact (below_size (by repeat (first | (with_reducible first | exact HB.out | apply below_alloc | apply pw_below_drewN | apply below_drew1) | exact HB.out))) : w.heap.size ≤ gb102)); clear HB; have HB := n0_; have BK102 := n1_; have GW102 := n2_; have GE102 := n3_; clear n0_ n1_ n2_ n3_; clear hb hbox hg; have hcz10_0 : w9.cell? ⟨gb102, 0, none⟩ = some (.int .i32 0) := (blk_cell BK102.out 0).trans rfl; have hcz10_1 : w9.cell? ⟨gb102, 1, none⟩ = some (.int .i32 0) := (blk_cell BK102.out 1).trans rfl; have hcz10_2 : w9.cell? ⟨gb102, 2, none⟩ = some (.int .i64 0) := (blk_cell BK102.out 2).trans rfl; have hfz10_0 := blk_frozen BK102.out 0; have hfz10_1 := blk_frozen BK102.out 1; have hfz10_2 := blk_frozen BK102.out 2))
       go_ret
       exact ⟨by first | rfl | (simp [errW_none, errW_some] <;> rfl) | (simp [*, errW_none, errW_some] <;> rfl), by repeat (first | (with_reducible first | exact HB.out | apply below_alloc | apply pw_below_drewN | apply below_drew1 | refine below_set ?_ GE102.out) | exact HB.out)⟩
      ·rw [if_neg c8] at H
       have c8b0 : decide (a0 ≤ (wrap64 (rd [32, 41, 46, 57, 90, 122, 214, 246, 591, 1023, 1279, 1514, 40959] x6_1))) = false := decide_eq_false c8
       clear c8
       have H' := Aside0.mk H
       clear H
       have p6 : 0 ≤ (x6_1 : Int) := of_decide_eq_true (by first | (with_reducible assumption) | assumption)
       have q6 : x6_1 < (13 : Int) := of_decide_eq_true (by first | (with_reducible assumption) | assumption)
       have hx6 : ∀ W_ : World, (Instr.index 55 (.agg #[.int .i32 32, .int .i32 32, .int .i64 0, .int .i32 39, .int .i32 41, .int .i64 0, .int .i32 45, .int .i32 46, .int .i64 0, .int .i32 48, .int .i32 57, .int .i64 0, .int .i32 65, .int .i32 90, .int .i64 1, .int .i32 97, .int .i32 122, .int .i64 1, .int .i32 192, .int .i32 214, .int .i64 1, .int .i32 216, .int .i32 246, .int .i64 1, .int .i32 248, .int .i32 591, .int .i64 1, .int .i32 880, .int .i32 1023, .int .i64 2, .int .i32 1024, .int .i32 1279, .int .i64 3, .int .i32 1488, .int .i32 1514, .int .i64 4, .int .i32 19968, .int .i32 40959, .int .i64 5]) (.int .i64 x6_1)).run Try.prog W_ = .ok (.agg #[.int .i32 (rd [32, 39, 45, 48, 65, 97, 192, 216, 248, 880, 1024, 1488, 19968] x6_1), .int .i32 (rd [32, 41, 46, 57, 90, 122, 214, 246, 591, 1023, 1279, 1514, 40959] x6_1), .int .i64 (rd [0, 0, 0, 0, 1, 1, 1, 1, 1, 2, 3, 4, 5] x6_1)]) W_ := (by intro W_; generalize x6_1 = jj_ at p6 q6 ⊢; rcases (show jj_ = 0 ∨ jj_ = 1 ∨ jj_ = 2 ∨ jj_ = 3 ∨ jj_ = 4 ∨ jj_ = 5 ∨ jj_ = 6 ∨ jj_ = 7 ∨ jj_ = 8 ∨ jj_ = 9 ∨ jj_ = 10 ∨ jj_ = 11 ∨ jj_ = 12 by omega) with hj_ | hj_ | hj_ | hj_ | hj_ | hj_ | hj_ | hj_ | hj_ | hj_ | hj_ | hj_ | hj_ <;> subst hj_ <;> (show _ = _; kernel_rfl))
       replace p6 := eq_true p6
       replace q6 := eq_true q6
       go_wp2_with (first | ((with_reducible refine gate_dst (N := 4) rfl ?_); refine box_event ?hg (N := 4) ?hd (cs := #[.int .i32 0, .int .i32 0, .int .i64 0]) (t := 54) ?hr ?_; (case hd => rfl); (case hg => rfl); (case hr => first | (go_simp; done) | (go_simp; rfl)); intro gb102 hg w11 hbox hb; have n0_ := Aside0.mk (below_step (by repeat (first | (with_reducible first | exact HB.out | apply below_alloc | apply pw_below_drewN | apply below_drew1) | exact HB.out)) hb); have n1_ := Aside0.mk (hbox); have n2_ := Aside0.mk ((by rw [hg]; exact (below_size (by repeat (first | (with_reducible first | exact HB.out | apply below_alloc | apply pw_below_drewN | apply below_drew1) | exact HB.out))) : w.heap.size ≤ gb102)); have n3_ := Aside0.mk ((by rw [hg]; exact (below_size (by repeat (first | (with_reducible first | exact HB.out | apply below_alloc | apply pw_below_drewN | apply below_drew1) | exact HB.out))) : w.heap.size ≤ gb102)); clear HB; have HB := n0_; have BK102 := n1_; have GW102 := n2_; have GE102 := n3_; clear n0_ n1_ n2_ n3_; clear hb hbox hg; have hcz12_0 : w11.cell? ⟨gb102, 0, none⟩ = some (.int .i32 0) := (blk_cell BK102.out 0).trans rfl; have hcz12_1 : w11.cell? ⟨gb102, 1, none⟩ = some (.int .i32 0) := (blk_cell BK102.out 1).trans rfl; have hcz12_2 : w11.cell? ⟨gb102, 2, none⟩ = some (.int .i64 0) := (blk_cell BK102.out 2).trans rfl; have hfz12_0 := blk_frozen BK102.out 0; have hfz12_1 := blk_frozen BK102.out 1; have hfz12_2 := blk_frozen BK102.out 2))
       go_roundg k1
       case measure => have := HK1.out; omega
       case rel => exact ⟨(wrap64 (x6_1 + 1)), (by first | rfl | (simp; done) | (simp [*]; done)), H', ⟨by have := HK1.out; omega⟩, ⟨by repeat (first | (with_reducible first | exact HB.out | apply below_alloc | apply pw_below_drewN | apply below_drew1 | refine below_set ?_ GE102.out) | exact HB.out)⟩⟩
     ·rw [if_neg c7] at H
      have c7b0 : decide ((wrap64 (rd [32, 39, 45, 48, 65, 97, 192, 216, 248, 880, 1024, 1488, 19968] x6_1)) ≤ a0) = false := decide_eq_false c7
      clear c7
      have H' := Aside0.mk H
      clear H
      have p6 : 0 ≤ (x6_1 : Int) := of_decide_eq_true (by first | (with_reducible assumption) | assumption)
      have q6 : x6_1 < (13 : Int) := of_decide_eq_true (by first | (with_reducible assumption) | assumption)
      have hx6 : ∀ W_ : World, (Instr.index 55 (.agg #[.int .i32 32, .int .i32 32, .int .i64 0, .int .i32 39, .int .i32 41, .int .i64 0, .int .i32 45, .int .i32 46, .int .i64 0, .int .i32 48, .int .i32 57, .int .i64 0, .int .i32 65, .int .i32 90, .int .i64 1, .int .i32 97, .int .i32 122, .int .i64 1, .int .i32 192, .int .i32 214, .int .i64 1, .int .i32 216, .int .i32 246, .int .i64 1, .int .i32 248, .int .i32 591, .int .i64 1, .int .i32 880, .int .i32 1023, .int .i64 2, .int .i32 1024, .int .i32 1279, .int .i64 3, .int .i32 1488, .int .i32 1514, .int .i64 4, .int .i32 19968, .int .i32 40959, .int .i64 5]) (.int .i64 x6_1)).run Try.prog W_ = .ok (.agg #[.int .i32 (rd [32, 39, 45, 48, 65, 97, 192, 216, 248, 880, 1024, 1488, 19968] x6_1), .int .i32 (rd [32, 41, 46, 57, 90, 122, 214, 246, 591, 1023, 1279, 1514, 40959] x6_1), .int .i64 (rd [0, 0, 0, 0, 1, 1, 1, 1, 1, 2, 3, 4, 5] x6_1)]) W_ := (by intro W_; generalize x6_1 = jj_ at p6 q6 ⊢; rcases (show jj_ = 0 ∨ jj_ = 1 ∨ jj_ = 2 ∨ jj_ = 3 ∨ jj_ = 4 ∨ jj_ = 5 ∨ jj_ = 6 ∨ jj_ = 7 ∨ jj_ = 8 ∨ jj_ = 9 ∨ jj_ = 10 ∨ jj_ = 11 ∨ jj_ = 12 by omega) with hj_ | hj_ | hj_ | hj_ | hj_ | hj_ | hj_ | hj_ | hj_ | hj_ | hj_ | hj_ | hj_ <;> subst hj_ <;> (show _ = _; kernel_rfl))
      replace p6 := eq_true p6
      replace q6 := eq_true q6
      go_wp2_with (first | ((with_reducible refine gate_dst (N := 4) rfl ?_); refine box_event ?hg (N := 4) ?hd (cs := #[.int .i32 0, .int .i32 0, .int .i64 0]) (t := 54) ?hr ?_; (case hd => rfl); (case hg => rfl); (case hr => first | (go_simp; done) | (go_simp; rfl)); intro gb102 hg w13 hbox hb; have n0_ := Aside0.mk (below_step (by repeat (first | (with_reducible first | exact HB.out | apply below_alloc | apply pw_below_drewN | apply below_drew1) | exact HB.out)) hb); have n1_ := Aside0.mk (hbox); have n2_ := Aside0.mk ((by rw [hg]; exact (below_size (by repeat (first | (with_reducible first | exact HB.out | apply below_alloc | apply pw_below_drewN | apply below_drew1) | exact HB.out))) : w.heap.size ≤ gb102)); have n3_ := Aside0.mk ((by rw [hg]; exact (below_size (by repeat (first | (with_reducible first | exact HB.out | apply below_alloc | apply pw_below_drewN | apply below_drew1) | exact HB.out))) : w.heap.size ≤ gb102)); clear HB; have HB := n0_; have BK102 := n1_; have GW102 := n2_; have GE102 := n3_; clear n0_ n1_ n2_ n3_; clear hb hbox hg; have hcz14_0 : w13.cell? ⟨gb102, 0, none⟩ = some (.int .i32 0) := (blk_cell BK102.out 0).trans rfl; have hcz14_1 : w13.cell? ⟨gb102, 1, none⟩ = some (.int .i32 0) := (blk_cell BK102.out 1).trans rfl; have hcz14_2 : w13.cell? ⟨gb102, 2, none⟩ = some (.int .i64 0) := (blk_cell BK102.out 2).trans rfl; have hfz14_0 := blk_frozen BK102.out 0; have hfz14_1 := blk_frozen BK102.out 1; have hfz14_2 := blk_frozen BK102.out 2))
      go_roundg k1
      case measure => have := HK1.out; omega
      case rel => exact ⟨(wrap64 (x6_1 + 1)), (by first | rfl | (simp; done) | (simp [*]; done)), H', ⟨by have := HK1.out; omega⟩, ⟨by repeat (first | (with_reducible first | exact HB.out | apply below_alloc | apply pw_below_drewN | apply below_drew1 | refine below_set ?_ GE102.out) | exact HB.out)⟩⟩
    ·rw [if_neg c5] at H
     exact absurd H (by simp)
   ·rw [if_neg c4] at H
    have c4b0 : decide (x6_1 < 13) = false := decide_eq_false c4
    clear c4
    obtain rfl := Option.some.inj H
    go_wp2
    go_ret
    exact ⟨by first | rfl | (simp [errW_none, errW_some] <;> rfl) | (simp [*, errW_none, errW_some] <;> rfl), by repeat (first | (with_reducible first | exact HB.out | apply below_alloc | apply pw_below_drewN | apply below_drew1) | exact HB.out)⟩

/-! ### glyph_Decode: function 23, by hand -/
def glyph_Decode.l0 : Nat → ByteArray → List Int → Nat → Option (List Int × Int)
  | 0, _, _, _ => none
  | k + 1, s, l, p => if p < s.size then (glyph_Script.f k ((Utf8.decode s p).1 : Int)).bind fun t => (if t < 0 then some ([], 4) else if l.length < 17592186044416 then glyph_Decode.l0 k s (l ++ [((Utf8.decode s p).1 : Int)]) (p + (Utf8.decode s p).2) else none) else some (l, 0)
def glyph_Decode.f (k : Nat) (a0 : ByteArray) : Option (List Int × Int) := glyph_Decode.l0 k a0 [] 0
theorem glyph_Decode.mono_l : ∀ k s l p, LeO (glyph_Decode.l0 k s l p) (glyph_Decode.l0 (k + 1) s l p)
  | 0 => fun _ _ _ r h => by simp [glyph_Decode.l0] at h
  | k + 1 => by
    intro s l p
    unfold glyph_Decode.l0
    refine LeO.ite ?_ (LeO.refl _)
    have ih := glyph_Decode.mono_l k
    refine LeO.bind (glyph_Script.mono _ k) (fun _ => ?_)
    exact LeO.ite (LeO.refl _) (LeO.ite (ih _ _ _) (LeO.refl _))
theorem glyph_Decode.mono : ∀ a0 k, LeO (glyph_Decode.f k a0) (glyph_Decode.f (k + 1) a0) := fun a0 k => glyph_Decode.mono_l k a0 [] 0
set_option maxHeartbeats 8000000 in
set_option maxRecDepth 100000 in
theorem glyph_Decode.calls (k : Nat) (a0 : ByteArray) (r1 : List Int) (r2 : Int) (w : World) (h : glyph_Decode.f k a0 = some (r1, r2)) :
    Calls Try.prog 23 #[.string a0] w fun e w' => ∃ v0_ : Value, e = .returned (.tuple #[v0_, .int .i64 r2]) ∧ Kd.R (Kd.int .i64) 3 w' w.heap.size (fun _ => True) v0_ r1 ∧ Below w.heap.size w w' := by
  have H' : Aside0 (glyph_Decode.l0 k a0 [] 0 = some (r1, r2)) := ⟨h⟩
  clear h
  have rr := fun (W : World) => run_range_string (P := Try.prog) W 9 a0 Try.underlying9
  go_enter Try.func23, Try.ntmps23
  go_wp2
  have HB := Aside0.mk (show Below w.heap.size w (w.iter a0 0) from (Below.refl _ _).alloc (Nat.le_refl _) _)
  have HI := Aside0.mk (World.iter_heap w a0 0)
  go_loopg [4] k (fun kq v4 w' => ∃ (x4 : List Int) (p : Nat), Aside0 (glyph_Decode.l0 kq a0 x4 p = some (r1, r2)) ∧ Aside0 (kq ≤ k) ∧ Aside0 (Kd.R (Kd.int .i64) 3 w' w.heap.size (fun j => j ≠ w.heap.size) v4 x4) ∧ Aside0 (Below w.heap.size w w') ∧ Aside0 (w'.heap[w.heap.size]? = some (.stringIter a0 p)))
  case atStart => exact ⟨[], 0, H', ⟨Nat.le_refl _⟩, ⟨Kd.R_nil _ _ _ _ _⟩, HB, HI⟩
  case round =>
    clear H' HB HI
    obtain ⟨x4, p, HA, HK1, HO, HB, HI⟩ := hrel
    cases gk with
    | zero => exact absurd HA.out (by simp [glyph_Decode.l0])
    | succ k1 =>
      have H := HA.out
      clear HA
      simp only [glyph_Decode.l0] at H
      by_cases c : p < a0.size
      · rw [if_pos c] at H
        replace H := Option.bind_eq_some_iff.mp H
        obtain ⟨t1, A1, H⟩ := H
        obtain ⟨q, hq⟩ : ∃ q, q = p + (Utf8.decode a0 p).2 := ⟨_, rfl⟩
        have hle := decode_le a0 p
        have hn := fun ty => run_next_at (P := Try.prog) HI.out c ty
        rw [← hq] at H hn
        obtain ⟨r, hr⟩ : ∃ r : Int, r = ((Utf8.decode a0 p).1 : Int) := ⟨_, rfl⟩
        rw [← hr] at H A1 hn
        have r0 : 0 ≤ r := by omega
        have r1' : r ≤ 2147483647 := by omega
        clear hr hle hq
        have A2 := Aside0.mk A1
        clear A1
        have n0_ := Aside0.mk (Kd.R_keep HO.out (setIter_keep wr w.heap.size a0 q) (fun _ h => h))
        have n1_ := Aside0.mk (setIter_below HB.out (Nat.le_refl _) a0 q)
        have n2_ := Aside0.mk (setIter_get HI.out a0 q)
        clear HO HB HI
        have HO := n0_
        have HB := n1_
        have HI := n2_
        clear n0_ n1_ n2_
        generalize setIter wr w.heap.size a0 q = w1 at *
        by_cases c2 : t1 < 0
        · rw [if_pos c2] at H
          have c2b : decide (t1 < 0) = true := decide_eq_true c2
          clear c2
          simp only [Option.some.injEq, Prod.mk.injEq] at H
          obtain ⟨rfl, rfl⟩ := H
          go_wp2_with (fail)
          go_at_call 40
          refine (glyph_Script.calls k1 r t1 _ A2.out).mono ?_
          rintro e w2 ⟨rfl, hb⟩
          have n0_ := Aside0.mk (Kd.R_below HO.out hb)
          have n1_ := Aside0.mk (below_step HB.out hb)
          have n2_ := Aside0.mk (blk_below HI.out hb)
          clear HO HB HI
          have HO := n0_
          have HB := n1_
          have HI := n2_
          clear n0_ n1_ n2_ hb
          go_wp2
          go_ret2
          exact ⟨_, rfl, Kd.R_nil _ _ _ _ _, HB.out⟩
        · rw [if_neg c2] at H
          have c2b : decide (t1 < 0) = false := decide_eq_false c2
          clear c2
          by_cases c3 : x4.length < 17592186044416
          · rw [if_pos c3] at H
            have LM := Aside0.mk c3
            clear c3
            have H' := Aside0.mk H
            clear H
            have i3 : (Try.prog.info? 3).map (fun i => (i.zero, i.size, i.bytes)) = some (some (.int .i64 0), 1, 8) := by kernel_rfl
            have I3 := Aside0.mk i3
            clear i3
            go_wp2_with (fail)
            go_at_call 40
            refine (glyph_Script.calls k1 r t1 _ A2.out).mono ?_
            rintro e w2 ⟨rfl, hb⟩
            have n0_ := Aside0.mk (Kd.R_below HO.out hb)
            have n1_ := Aside0.mk (below_step HB.out hb)
            have n2_ := Aside0.mk (blk_below HI.out hb)
            clear HO HB HI
            have HO := n0_
            have HB := n1_
            have HI := n2_
            clear n0_ n1_ n2_ hb
            go_wp2_with (((with_reducible refine gate_builtin (b := .append) (xs := #[.tmp 16, .tmp 19]) rfl ?_); at_builtin; refine Kd.R_append (Kd.int .i64) (w0 := w) w.heap.size rfl (.tmp 16) (.tmp 19) 24 3 (.int .i64 0) 8 rfl Try.underlying24 I3.out rfl (by decide) (by omega) u4 x4 r [.int .i64 r] (fun j => j ≠ w.heap.size) (fun _ => False) rfl rfl ?aP (fun _ hk => hk.elim) ?aF ?aO ?aB ?aS ?aL ?_; (case aP => exact rfl); (case aB => exact HB.out); (case aF => exact (fun j hj => by have := blk_lt HI.out; omega)); (case aO => exact HO.out); (case aS => exact (below_size HB.out)); (case aL => have := LM.out; omega); intro v1 w3 ho hb hg hat; have n0_ := Aside0.mk ho; have n1_ := Aside0.mk hb; have n2_ := Aside0.mk (blk_grown HI.out hg (fun e => HO.out.1 _ e.symm rfl)); clear HO HB HI; have HO := n0_; have HB := n1_; have HI := n2_; clear n0_ n1_ n2_ ho hb hg hat))
            go_roundg k1
            case measure => have := HK1.out; omega
            case rel => exact ⟨_, _, H', ⟨by have := HK1.out; omega⟩, HO, HB, HI⟩
          · rw [if_neg c3] at H
            cases H
      · rw [if_neg c] at H
        simp only [Option.some.injEq, Prod.mk.injEq] at H
        obtain ⟨rfl, rfl⟩ := H
        have hn := fun ty => run_next_done (P := Try.prog) HI.out c ty
        go_wp2
        go_ret2
        exact ⟨_, rfl, Kd.R_mono HO.out (fun _ _ => trivial), HB.out⟩

/-! ### name_runes: function 25, by hand -/
/-- The library's variable bytealg.MaxLen holds some number. -/
def ML (w : World) : Prop := ∃ m : Int, w.cell? ⟨0, 0, none⟩ = some (.int .i64 m)
theorem ML.below {w W : World} (h : ML w) (hb : Below w.heap.size w W) : ML W := by
  obtain ⟨m, hm⟩ := h
  exact ⟨m, (hb.cell (World.block_lt_of_cell? w _ hm)).trans hm⟩
/-- Is there a letter among these? -/
def name_runes.l0 : Nat → List Int → Int → Option Bool
  | 0, _, _ => none
  | k + 1, l, i => if i < (l.length : Int) then (glyph_Script.f k (rd l i)).bind fun t => (if t = 0 then name_runes.l0 k l (i + 1) else some true) else some false
def name_runes.f (k : Nat) (a0 : ByteArray) : Option (List Int × Int) :=
  if a0.toList = [] then some ([], 14) else if (a0.size : Int) > 40 then some ([], 3) else
  (glyph_Decode.f k a0).bind fun r => if r.2 = 0 then (if 0 < r.1.length then (if rd r.1 0 = 32 then some ([], 14) else if rd r.1 ((r.1.length : Int) - 1) = 32 then some ([], 14) else if Lib.contains a0.data.toList [32, 32] = true then some ([], 14) else
    (name_runes.l0 k r.1 0).bind fun b => (if b = true then some (r.1, 0) else some ([], 14))) else none) else some ([], r.2)
theorem name_runes.mono_l : ∀ k l i, LeO (name_runes.l0 k l i) (name_runes.l0 (k + 1) l i)
  | 0 => fun _ _ r h => by simp [name_runes.l0] at h
  | k + 1 => by
    intro l i
    unfold name_runes.l0
    exact LeO.ite (LeO.bind (glyph_Script.mono _ k) (fun _ => LeO.ite (name_runes.mono_l k _ _) (LeO.refl _))) (LeO.refl _)
theorem name_runes.mono : ∀ a0 k, LeO (name_runes.f k a0) (name_runes.f (k + 1) a0) := by
  intro a0 k
  unfold name_runes.f
  refine LeO.ite (LeO.refl _) (LeO.ite (LeO.refl _) (LeO.bind (glyph_Decode.mono _ k) (fun _ => LeO.ite (LeO.ite (LeO.ite (LeO.refl _) (LeO.ite (LeO.refl _) (LeO.ite (LeO.refl _) ?_))) (LeO.refl _)) (LeO.refl _))))
  exact LeO.bind (name_runes.mono_l k _ _) (fun _ => LeO.refl _)
set_option maxHeartbeats 8000000 in
set_option maxRecDepth 100000 in
theorem name_runes.calls (k : Nat) (a0 : ByteArray) (r1 : List Int) (r2 : Int) (w : World) (hml : ML w) (h : name_runes.f k a0 = some (r1, r2)) :
    Calls Try.prog 25 #[.string a0] w fun e w' => ∃ v0_ : Value, e = .returned (.tuple #[v0_, .int .i64 r2]) ∧ Kd.R (Kd.int .i64) 3 w' w.heap.size (fun _ => True) v0_ r1 ∧ Below w.heap.size w w' := by
  have HM := Aside0.mk hml
  clear hml
  unfold name_runes.f at h
  by_cases c1 : a0.toList = []
  · rw [if_pos c1] at h
    have c1b : (a0.toList == []) = true := beq_iff_eq.mpr c1
    have c1c : a0.toList.isEmpty = true := by rw [c1]; rfl
    simp only [Option.some.injEq, Prod.mk.injEq] at h
    obtain ⟨rfl, rfl⟩ := h
    clear c1
    go_enter Try.func25, Try.ntmps25
    go_wp2
    go_step3
    go_wp2
    try simp only [Exit.jump]
    try rw [Exit.noGoto_ret]
    go_ret2
    exact ⟨_, rfl, Kd.R_nil _ _ _ _ _, Below.refl _ _⟩
  rw [if_neg c1] at h
  have c1b : (a0.toList == []) = false := beq_eq_false_iff_ne.mpr c1
  have c1c : a0.toList.isEmpty = false := by cases e : a0.toList with | nil => exact absurd e c1 | cons => rfl
  clear c1
  by_cases c2 : (a0.size : Int) > 40
  · rw [if_pos c2] at h
    have c2b : decide (40 < (a0.size : Int)) = true := decide_eq_true c2
    simp only [Option.some.injEq, Prod.mk.injEq] at h
    obtain ⟨rfl, rfl⟩ := h
    clear c2
    go_enter Try.func25, Try.ntmps25
    go_wp2
    go_step3
    go_wp2
    try simp only [Exit.jump]
    try rw [Exit.noGoto_ret]
    go_ret2
    exact ⟨_, rfl, Kd.R_nil _ _ _ _ _, Below.refl _ _⟩
  rw [if_neg c2] at h
  have c2b : decide (40 < (a0.size : Int)) = false := decide_eq_false c2
  have hsz : a0.size < 4294967281 := by omega
  clear c2
  obtain ⟨⟨l, e1⟩, A1, h⟩ := Option.bind_eq_some_iff.mp h
  have A1 := Aside0.mk A1
  simp only [] at h
  by_cases c3 : e1 = 0
  · rw [if_pos c3] at h
    subst c3
    by_cases c4 : 0 < l.length
    · rw [if_pos c4] at h
      by_cases c5 : rd l 0 = 32
      · rw [if_pos c5] at h
        have c5b : (rd l 0 == 32) = true := beq_iff_eq.mpr c5
        clear c5
        simp only [Option.some.injEq, Prod.mk.injEq] at h
        obtain ⟨rfl, rfl⟩ := h
        go_enter Try.func25, Try.ntmps25
        go_wp2
        go_step3
        go_wp2_with (fail)
        go_at_call 23
        refine (glyph_Decode.calls k a0 l 0 _ A1.out).mono ?_
        rintro e w2 ⟨v0, rfl, ho, hb⟩
        have HO := Aside0.mk ho
        have HB := Aside0.mk hb
        clear ho hb
        obtain ⟨A, cap, rfl, hcap, hC⟩ := Kd.R_reads HO.out
        have HC := Aside0.mk hC
        have hmax := hC.2.1
        clear hC hcap
        obtain ⟨ad, ea, hx0⟩ := Kd.at_int HC.out 0 (by decide) (by omega)
        cases ea
        rw [show ((0 : Int)).toNat = 0 from rfl] at hx0
        rw [Addr.add_zero'] at hx0
        obtain ⟨j, hj⟩ : ∃ j : Int, (l.length : Int) - 1 = j := ⟨_, rfl⟩
        have hjw : IntKind.i64.wrap ((l.length : Int) - 1) = j := by rw [i64_w, hj]; unfold wrap64; omega
        have hj0 : 0 ≤ j := by omega
        have hj1 : j < (l.length : Int) := by omega
        obtain ⟨ad', ea, hx1⟩ := Kd.at_int HC.out j hj0 hj1
        cases ea
        clear hmax
        have q0 : (0 < l.length) = True := eq_true c4
        have q1 : decide (0 < l.length) = true := decide_eq_true c4
        replace hj0 := eq_true hj0
        replace hj1 := eq_true hj1
        clear hj
        go_wp2
        try simp only [Exit.jump]
        try rw [Exit.noGoto_ret]
        go_ret2
        exact ⟨_, rfl, Kd.R_nil _ _ _ _ _, HB.out⟩
      rw [if_neg c5] at h
      have c5b : (rd l 0 == 32) = false := beq_eq_false_iff_ne.mpr c5
      clear c5
      by_cases c6 : rd l ((l.length : Int) - 1) = 32
      · rw [if_pos c6] at h
        simp only [Option.some.injEq, Prod.mk.injEq] at h
        obtain ⟨rfl, rfl⟩ := h
        go_enter Try.func25, Try.ntmps25
        go_wp2
        go_step3
        go_wp2_with (fail)
        go_at_call 23
        refine (glyph_Decode.calls k a0 l 0 _ A1.out).mono ?_
        rintro e w2 ⟨v0, rfl, ho, hb⟩
        have HO := Aside0.mk ho
        have HB := Aside0.mk hb
        clear ho hb
        obtain ⟨A, cap, rfl, hcap, hC⟩ := Kd.R_reads HO.out
        have HC := Aside0.mk hC
        have hmax := hC.2.1
        clear hC hcap
        obtain ⟨ad, ea, hx0⟩ := Kd.at_int HC.out 0 (by decide) (by omega)
        cases ea
        rw [show ((0 : Int)).toNat = 0 from rfl] at hx0
        rw [Addr.add_zero'] at hx0
        obtain ⟨j, hj⟩ : ∃ j : Int, (l.length : Int) - 1 = j := ⟨_, rfl⟩
        have hjw : IntKind.i64.wrap ((l.length : Int) - 1) = j := by rw [i64_w, hj]; unfold wrap64; omega
        have hj0 : 0 ≤ j := by omega
        have hj1 : j < (l.length : Int) := by omega
        obtain ⟨ad', ea, hx1⟩ := Kd.at_int HC.out j hj0 hj1
        cases ea
        clear hmax
        have q0 : (0 < l.length) = True := eq_true c4
        have q1 : decide (0 < l.length) = true := decide_eq_true c4
        replace hj0 := eq_true hj0
        replace hj1 := eq_true hj1
        rw [hj] at c6
        have c6b : (rd l j == 32) = true := beq_iff_eq.mpr c6
        clear c6 hj
        go_wp2
        try simp only [Exit.jump]
        try rw [Exit.noGoto_ret]
        go_ret2
        exact ⟨_, rfl, Kd.R_nil _ _ _ _ _, HB.out⟩
      rw [if_neg c6] at h
      by_cases c7 : Lib.contains a0.data.toList [32, 32] = true
      · rw [if_pos c7] at h
        simp only [Option.some.injEq, Prod.mk.injEq] at h
        obtain ⟨rfl, rfl⟩ := h
        go_enter Try.func25, Try.ntmps25
        go_wp2
        go_step3
        go_wp2_with (fail)
        go_at_call 23
        refine (glyph_Decode.calls k a0 l 0 _ A1.out).mono ?_
        rintro e w2 ⟨v0, rfl, ho, hb⟩
        have HO := Aside0.mk ho
        have HB := Aside0.mk hb
        clear ho hb
        obtain ⟨A, cap, rfl, hcap, hC⟩ := Kd.R_reads HO.out
        have HC := Aside0.mk hC
        have hmax := hC.2.1
        clear hC hcap
        obtain ⟨ad, ea, hx0⟩ := Kd.at_int HC.out 0 (by decide) (by omega)
        cases ea
        rw [show ((0 : Int)).toNat = 0 from rfl] at hx0
        rw [Addr.add_zero'] at hx0
        obtain ⟨j, hj⟩ : ∃ j : Int, (l.length : Int) - 1 = j := ⟨_, rfl⟩
        have hjw : IntKind.i64.wrap ((l.length : Int) - 1) = j := by rw [i64_w, hj]; unfold wrap64; omega
        have hj0 : 0 ≤ j := by omega
        have hj1 : j < (l.length : Int) := by omega
        obtain ⟨ad', ea, hx1⟩ := Kd.at_int HC.out j hj0 hj1
        cases ea
        clear hmax
        have q0 : (0 < l.length) = True := eq_true c4
        have q1 : decide (0 < l.length) = true := decide_eq_true c4
        replace hj0 := eq_true hj0
        replace hj1 := eq_true hj1
        rw [hj] at c6
        have c6b : (rd l j == 32) = false := beq_eq_false_iff_ne.mpr c6
        clear c6 hj
        go_wp2_with (fail)
        obtain ⟨m, hm⟩ := ML.below HM.out HB.out
        have ct := Try.strings_Contains a0 ⟨#[32, 32]⟩ m _ hsz hm
        rw [show Lib.contains a0.data.toList (⟨#[32, 32]⟩ : ByteArray).data.toList = true from c7] at ct
        go_at_call 42
        refine ct.mono ?_
        clear ct hm c7
        rintro e w3 ⟨rfl, rfl⟩
        go_wp2
        try simp only [Exit.jump]
        try rw [Exit.noGoto_ret]
        go_ret2
        exact ⟨_, rfl, Kd.R_nil _ _ _ _ _, HB.out⟩
      rw [if_neg c7] at h
      have c7f : Lib.contains a0.data.toList [32, 32] = false := by cases e : Lib.contains a0.data.toList [32, 32] with | true => exact absurd e c7 | false => rfl
      clear c7
      obtain ⟨b, B1, h⟩ := Option.bind_eq_some_iff.mp h
      have B1 := Aside0.mk B1
      have H := Aside0.mk h
      clear h
      go_enter Try.func25, Try.ntmps25
      go_wp2
      go_step3
      go_wp2_with (fail)
      go_at_call 23
      refine (glyph_Decode.calls k a0 l 0 _ A1.out).mono ?_
      rintro e w2 ⟨v0, rfl, ho, hb⟩
      have HO := Aside0.mk ho
      have HB := Aside0.mk hb
      clear ho hb
      obtain ⟨A, cap, rfl, hcap, hC⟩ := Kd.R_reads HO.out
      have HC := Aside0.mk hC
      have hmax := hC.2.1
      clear hC hcap
      obtain ⟨ad, ea, hx0⟩ := Kd.at_int HC.out 0 (by decide) (by omega)
      cases ea
      rw [show ((0 : Int)).toNat = 0 from rfl] at hx0
      rw [Addr.add_zero'] at hx0
      obtain ⟨j, hj⟩ : ∃ j : Int, (l.length : Int) - 1 = j := ⟨_, rfl⟩
      have hjw : IntKind.i64.wrap ((l.length : Int) - 1) = j := by rw [i64_w, hj]; unfold wrap64; omega
      have hj0 : 0 ≤ j := by omega
      have hj1 : j < (l.length : Int) := by omega
      obtain ⟨ad', ea, hx1⟩ := Kd.at_int HC.out j hj0 hj1
      cases ea
      clear hmax
      have q0 : (0 < l.length) = True := eq_true c4
      have q1 : decide (0 < l.length) = true := decide_eq_true c4
      replace hj0 := eq_true hj0
      replace hj1 := eq_true hj1
      rw [hj] at c6
      have c6b : (rd l j == 32) = false := beq_eq_false_iff_ne.mpr c6
      clear c6 hj
      go_wp2_with (fail)
      obtain ⟨m, hm⟩ := ML.below HM.out HB.out
      have ct := Try.strings_Contains a0 ⟨#[32, 32]⟩ m _ hsz hm
      rw [show Lib.contains a0.data.toList (⟨#[32, 32]⟩ : ByteArray).data.toList = false from c7f] at ct
      go_at_call 42
      refine ct.mono ?_
      clear ct hm c7f
      rintro e w3 ⟨rfl, rfl⟩
      go_wp2
      go_step3
      go_wp2
      refine wp_loop_rounds 1 ?_
      rw [rounds_succ]
      go_wp2
      go_loopg [40] k (fun kq v40 w' => ∃ i : Int, v40 = .int .i64 i ∧ Aside0 (0 ≤ i) ∧ Aside0 (name_runes.l0 kq l i = some b) ∧ Aside0 (kq ≤ k) ∧ Aside0 (Kd.R (Kd.int .i64) 3 w' w.heap.size (fun _ => True) (.slice (some ad) l.length cap) l) ∧ Aside0 (Below w.heap.size w w'))
      case atStart => exact ⟨0, rfl, ⟨by decide⟩, B1, ⟨Nat.le_refl _⟩, HO, HB⟩
      case round =>
        clear B1 HO HB HC hx0 hx1 hj0 hj1 q0 q1 c5b c6b hjw
        obtain ⟨i, rfl, I0, HA, HK1, HO, HB⟩ := hrel
        cases gk with
        | zero => exact absurd HA.out (by simp [name_runes.l0])
        | succ k1 =>
          have h := HA.out
          clear HA
          rw [name_runes.l0] at h
          obtain ⟨A', cap', e', hcap', hC'⟩ := Kd.R_reads HO.out
          cases e'
          have hmax := hC'.2.1
          have i0 := I0.out
          by_cases d1 : i < (l.length : Int)
          · rw [if_pos d1] at h
            obtain ⟨ad', ea, hx⟩ := Kd.at_int hC' i i0 d1
            cases ea
            obtain ⟨t1, T1, h⟩ := Option.bind_eq_some_iff.mp h
            have T1 := Aside0.mk T1
            have d1b : decide (i < (l.length : Int)) = true := decide_eq_true d1
            have wi : IntKind.i64.wrap (i + 1) = i + 1 := by rw [i64_w]; unfold wrap64; omega
            replace i0 := eq_true i0
            replace d1 := eq_true d1
            clear hC' hcap' hmax
            by_cases d2 : t1 = 0
            · rw [if_pos d2] at h
              have d2b : (t1 != 0) = false := bne_eq_false_iff_eq.mpr d2
              have d2c : (t1 == 0) = true := beq_iff_eq.mpr d2
              clear d2
              have HA := Aside0.mk h
              clear h
              go_wp2_with (fail)
              go_at_call 40
              refine (glyph_Script.calls k1 (rd l i) t1 _ T1.out).mono ?_
              rintro e w4 ⟨rfl, hb⟩
              have n0_ := Aside0.mk (Kd.R_below HO.out hb)
              have n1_ := Aside0.mk (below_step HB.out hb)
              clear HO HB
              have HO := n0_
              have HB := n1_
              clear n0_ n1_ hb
              go_wp2
              go_roundg k1
              case measure => have := HK1.out; omega
              case rel => exact ⟨i + 1, (by first | rfl | (simp; done) | (simp [*]; done)), ⟨by have := I0.out; omega⟩, HA, ⟨by have := HK1.out; omega⟩, HO, HB⟩
            · rw [if_neg d2] at h
              have d2b : (t1 != 0) = true := bne_iff_ne.mpr d2
              have d2c : (t1 == 0) = false := beq_eq_false_iff_ne.mpr d2
              clear d2
              obtain rfl := Option.some.inj h
              have h := H.out
              rw [if_pos rfl] at h
              simp only [Option.some.injEq, Prod.mk.injEq] at h
              obtain ⟨rfl, rfl⟩ := h
              go_wp2_with (fail)
              go_at_call 40
              refine (glyph_Script.calls k1 (rd l i) t1 _ T1.out).mono ?_
              rintro e w4 ⟨rfl, hb⟩
              have n0_ := Aside0.mk (Kd.R_below HO.out hb)
              have n1_ := Aside0.mk (below_step HB.out hb)
              clear HO HB
              have HO := n0_
              have HB := n1_
              clear n0_ n1_ hb
              go_wp2
              try simp only [Exit.jump]
              try rw [Exit.noGoto_ret]
              go_ret2
              exact ⟨_, rfl, HO.out, HB.out⟩
          · rw [if_neg d1] at h
            obtain rfl := Option.some.inj h
            have h := H.out
            rw [if_neg (by decide)] at h
            simp only [Option.some.injEq, Prod.mk.injEq] at h
            obtain ⟨rfl, rfl⟩ := h
            have d1b : decide (i < (l.length : Int)) = false := decide_eq_false d1
            clear d1
            go_wp2
            try simp only [Exit.jump]
            try rw [Exit.noGoto_ret]
            go_ret2
            exact ⟨_, rfl, Kd.R_nil _ _ _ _ _, HB.out⟩
    · rw [if_neg c4] at h
      cases h
  · rw [if_neg c3] at h
    have c3b : (e1 == 0) = false := beq_eq_false_iff_ne.mpr c3
    have c3c : (e1 != 0) = true := bne_iff_ne.mpr c3
    clear c3
    simp only [Option.some.injEq, Prod.mk.injEq] at h
    obtain ⟨rfl, rfl⟩ := h
    go_enter Try.func25, Try.ntmps25
    go_wp2
    go_step3
    go_wp2_with (fail)
    go_at_call 23
    refine (glyph_Decode.calls k a0 l e1 _ A1.out).mono ?_
    rintro e w2 ⟨v0, rfl, HO, hb⟩
    have HB := Aside0.mk hb
    clear HO hb
    go_wp2
    try simp only [Exit.jump]
    try rw [Exit.noGoto_ret]
    go_ret2
    exact ⟨_, rfl, Kd.R_nil _ _ _ _ _, HB.out⟩

/-! ### strings_IndexByte: function 26, by hand -/


def strings_IndexByte.f (a0 : ByteArray) (a1 : Int) : Option (Int) := some (Lib.indexByte a0.data.toList a1.toNat.toUInt8)
theorem strings_IndexByte.calls (a0 : ByteArray) (a1 : Int) (r : Int) (w : World) (h : strings_IndexByte.f a0 a1 = some r) :
    Calls Try.prog 26 #[.string a0, .int .u8 a1] w fun e w' => e = .returned (.int .i64 r) ∧ Drawn0 w w' := by
  obtain rfl := Option.some.inj h
  exact (Try.strings_IndexByte a0 a1 w).mono fun _ _ ⟨he, hw⟩ => ⟨he, hw ▸ Drawn0.refl _⟩

end Go.Proofs.Ytijkaeonihgcfaa.P
