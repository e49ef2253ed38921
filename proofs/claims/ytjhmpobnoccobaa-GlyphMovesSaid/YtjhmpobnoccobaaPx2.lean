-- Written by wip/tools/xprint.py (this session's program, over the kit's print.py) for this seat.
import Derived.Test.YtjhmpobnoccobaaPx0
import Derived.Test.YtjhmpobnoccobaaPx1
namespace Go.Proofs.Ytjhmpobnoccobaa.P
open Go.RowKit Go.Proofs.YtjhmpobnoccobaaW.PrintWords Go.Proofs.YtjhmpobnoccobaaW.PrintLast Go.Proofs.YtjhmpobnoccobaaW.PrintMore
attribute [local go_sem] max2_int min2_int max_two min_two max_three min_three max_four min_four   -- for this text's walks alone
set_option linter.unusedVariables false
set_option linter.unusedSimpArgs false

/-! ### glyph_Fold: function 22 -/
def glyph_Fold.l0 : Nat → Int → Int → Option (Int)
 | 0, _, _ => none
 | k + 1, x0, x6 => if x6 < 11 then (if 0 ≤ x6 then (if x0 ≥ (rd [65, 192, 216, 913, 1040, 1024, 256, 330, 313, 377, 376] x6) then (if x0 ≤ (rd [90, 214, 222, 937, 1071, 1039, 310, 374, 327, 381, 376] x6) then (if (rd [1, 1, 1, 1, 1, 1, 2, 2, 2, 2, 1] x6) = 0 then (none) else (if (Int.tmod (wrap64 (x0 - (rd [65, 192, 216, 913, 1040, 1024, 256, 330, 313, 377, 376] x6))) (rd [1, 1, 1, 1, 1, 1, 2, 2, 2, 2, 1] x6)) = 0 then (some (wrap64 (x0 + (rd [32, 32, 32, 32, 32, 80, 1, 1, 1, 1, (-121)] x6)))) else (glyph_Fold.l0 k x0 (wrap64 (x6 + 1))))) else (glyph_Fold.l0 k x0 (wrap64 (x6 + 1)))) else (glyph_Fold.l0 k x0 (wrap64 (x6 + 1)))) else (none)) else (some x0)
def glyph_Fold.f (k : Nat) (a0 : Int) : Option (Int) := (glyph_shifts.f).bind fun _ => (glyph_Fold.l0 k a0 0)
theorem glyph_Fold.mono_l : ∀ k, (∀ y0 y1, LeO (glyph_Fold.l0 k y0 y1) (glyph_Fold.l0 (k + 1) y0 y1))
 | 0 => fun _ _ r h => by simp [glyph_Fold.l0] at h
 | k + 1 => by
  have ih0 := glyph_Fold.mono_l k
  ·intro y0 y1
   unfold glyph_Fold.l0
   repeat' first
   | (with_reducible exact ih0 _ _)
   | (with_reducible exact LeO.refl _)
   | (with_reducible exact LeO.none _)
   | (with_reducible refine LeO.ite ?_ ?_)
   | (with_reducible refine LeO.bind ?_ (fun _ => ?_))
   | exact ih0 _ _
   | exact LeO.none _
   | refine LeO.ite ?_ ?_
   | refine LeO.bind ?_ (fun _ => ?_)
theorem glyph_Fold.mono : ∀ a0 k, LeO (glyph_Fold.f k a0) (glyph_Fold.f (k + 1) a0) := by
 intro a0 k
 have ih0 := glyph_Fold.mono_l k
 unfold glyph_Fold.f
 repeat' first
   | (with_reducible exact ih0 _ _)
   | (with_reducible exact LeO.refl _)
   | (with_reducible exact LeO.none _)
   | (with_reducible refine LeO.ite ?_ ?_)
   | (with_reducible refine LeO.bind ?_ (fun _ => ?_))
   | exact ih0 _ _
   | exact LeO.none _
   | refine LeO.ite ?_ ?_
   | refine LeO.bind ?_ (fun _ => ?_)
set_option maxHeartbeats 8000000 in
set_option maxRecDepth 100000 in
theorem glyph_Fold.calls (k : Nat) (a0 : Int) (r : Int) (w : World) (h : glyph_Fold.f k a0 = some r) :
  Calls Try.prog 22 #[.int .i64 a0] w fun e w' => e = .returned (.int .i64 r) ∧ Below w.heap.size w w' := by
 have hu48 := Try.underlying48
 have HB := Aside0.mk (Below.refl w.heap.size w)
 have H : ((glyph_shifts.f).bind fun _ => (glyph_Fold.l0 k a0 0)) = some r := h
 clear h
 replace H := Option.bind_eq_some_iff.mp H
 obtain ⟨_, A20, H⟩ := H
 replace H : (glyph_Fold.l0 k a0 0) = some r := H
 have A2 := Aside0.mk A20
 clear A20
 have H' := Aside0.mk H
 clear H
 go_enter Try.func22, Try.ntmps22
 go_wp2_with (first | ((with_reducible refine gate_callee (f := 32) rfl ?_); refine goesL_ (some 5) rfl rfl Try.func32 (by kernel_rfl) rfl #[] rfl (by (try simp only [List.map_toArray, List.map_cons, List.map_nil]); first | done | rfl | (simp only [List.length_drop, List.length_take]; rfl)) ?_; (with_reducible refine (glyph_shifts.calls   _ A2.out).mono ?_); rintro e w3 ⟨rfl, hb⟩; refine ⟨_, rfl, ?_⟩; have n0_ := Aside0.mk (below_step (by repeat (first | (with_reducible first | exact HB.out | apply below_alloc | apply pw_below_drewN | apply below_drew1) | exact HB.out)) hb); clear HB; have HB := n0_; clear n0_; (try clear hb); (try clear hb2); (try clear hk); (try clear hi)))
 go_loopg [6] k (fun kq v6 w' => ∃ (x6_1 : Int), v6 = .int .i64 x6_1 ∧ Aside0 (glyph_Fold.l0 kq a0 x6_1 = some r) ∧ Aside0 (kq ≤ k) ∧ Aside0 (Below w.heap.size w w'))
 case atStart => exact ⟨(0), (by first | rfl | (simp; done) | (simp [*]; done)), H', ⟨Nat.le_refl _⟩, ⟨by repeat (first | (with_reducible first | exact HB.out | apply below_alloc | apply pw_below_drewN | apply below_drew1) | exact HB.out)⟩⟩
 case round =>
  clear H'
  try clear c2
  try clear p2
  try clear c3
  obtain ⟨x6_1, rfl, HA, HK1, HB⟩ := hrel
  cases gk with
  | zero => exact absurd HA.out (by simp [glyph_Fold.l0])
  | succ k1 =>
   have H := HA.out
   clear HA
   simp only [glyph_Fold.l0] at H
   by_cases c4 : x6_1 < 11
   ·rw [if_pos c4] at H
    have c4b0 : decide (x6_1 < 11) = true := decide_eq_true c4
    clear c4
    by_cases c5 : 0 ≤ x6_1
    ·rw [if_pos c5] at H
     have c5b0 : decide (0 ≤ x6_1) = true := decide_eq_true c5
     clear c5
     by_cases c7 : a0 ≥ (rd [65, 192, 216, 913, 1040, 1024, 256, 330, 313, 377, 376] x6_1)
     ·rw [if_pos c7] at H
      have c7b0 : decide ((rd [65, 192, 216, 913, 1040, 1024, 256, 330, 313, 377, 376] x6_1) ≤ a0) = true := decide_eq_true c7
      clear c7
      by_cases c8 : a0 ≤ (rd [90, 214, 222, 937, 1071, 1039, 310, 374, 327, 381, 376] x6_1)
      ·rw [if_pos c8] at H
       have c8b0 : decide (a0 ≤ (rd [90, 214, 222, 937, 1071, 1039, 310, 374, 327, 381, 376] x6_1)) = true := decide_eq_true c8
       clear c8
       by_cases c9 : (rd [1, 1, 1, 1, 1, 1, 2, 2, 2, 2, 1] x6_1) = 0
       ·rw [if_pos c9] at H
        exact absurd H (by simp)
       ·rw [if_neg c9] at H
        have c9b0 : ((rd [1, 1, 1, 1, 1, 1, 2, 2, 2, 2, 1] x6_1) == 0) = false := beq_eq_false_iff_ne.mpr c9
        have c9b1 : ((rd [1, 1, 1, 1, 1, 1, 2, 2, 2, 2, 1] x6_1) != 0) = true := bne_iff_ne.mpr c9
        by_cases c10 : (Int.tmod (wrap64 (a0 - (rd [65, 192, 216, 913, 1040, 1024, 256, 330, 313, 377, 376] x6_1))) (rd [1, 1, 1, 1, 1, 1, 2, 2, 2, 2, 1] x6_1)) = 0
        ·rw [if_pos c10] at H
         have c10b0 : ((Int.tmod (wrap64 (a0 - (rd [65, 192, 216, 913, 1040, 1024, 256, 330, 313, 377, 376] x6_1))) (rd [1, 1, 1, 1, 1, 1, 2, 2, 2, 2, 1] x6_1)) == 0) = true := beq_iff_eq.mpr c10
         have c10b1 : ((Int.tmod (wrap64 (a0 - (rd [65, 192, 216, 913, 1040, 1024, 256, 330, 313, 377, 376] x6_1))) (rd [1, 1, 1, 1, 1, 1, 2, 2, 2, 2, 1] x6_1)) != 0) = false := bne_eq_false_iff_eq.mpr c10
         clear c10
         obtain rfl := Option.some.inj H
         have p6 : 0 ≤ (x6_1 : Int) := of_decide_eq_true (by first | (with_reducible assumption) | assumption)
         have q6 : x6_1 < (11 : Int) := of_decide_eq_true (by first | (with_reducible assumption) | assumption)
         have hx6 : ∀ W_ : World, (Instr.index 49 (.agg #[.int .i64 65, .int .i64 90, .int .i64 1, .int .i64 32, .int .i64 192, .int .i64 214, .int .i64 1, .int .i64 32, .int .i64 216, .int .i64 222, .int .i64 1, .int .i64 32, .int .i64 913, .int .i64 937, .int .i64 1, .int .i64 32, .int .i64 1040, .int .i64 1071, .int .i64 1, .int .i64 32, .int .i64 1024, .int .i64 1039, .int .i64 1, .int .i64 80, .int .i64 256, .int .i64 310, .int .i64 2, .int .i64 1, .int .i64 330, .int .i64 374, .int .i64 2, .int .i64 1, .int .i64 313, .int .i64 327, .int .i64 2, .int .i64 1, .int .i64 377, .int .i64 381, .int .i64 2, .int .i64 1, .int .i64 376, .int .i64 376, .int .i64 1, .int .i64 (-121)]) (.int .i64 x6_1)).run Try.prog W_ = .ok (.agg #[.int .i64 (rd [65, 192, 216, 913, 1040, 1024, 256, 330, 313, 377, 376] x6_1), .int .i64 (rd [90, 214, 222, 937, 1071, 1039, 310, 374, 327, 381, 376] x6_1), .int .i64 (rd [1, 1, 1, 1, 1, 1, 2, 2, 2, 2, 1] x6_1), .int .i64 (rd [32, 32, 32, 32, 32, 80, 1, 1, 1, 1, (-121)] x6_1)]) W_ := (by intro W_; generalize x6_1 = jj_ at p6 q6 ⊢; rcases (show jj_ = 0 ∨ jj_ = 1 ∨ jj_ = 2 ∨ jj_ = 3 ∨ jj_ = 4 ∨ jj_ = 5 ∨ jj_ = 6 ∨ jj_ = 7 ∨ jj_ = 8 ∨ jj_ = 9 ∨ jj_ = 10 by omega) with hj_ | hj_ | hj_ | hj_ | hj_ | hj_ | hj_ | hj_ | hj_ | hj_ | hj_ <;> subst hj_ <;> (show _ = _; kernel_rfl))
         replace p6 := eq_true p6
         replace q6 := eq_true q6
         go_wp2_with (first | ((with_reducible refine gate_dst (N := 4) rfl ?_); refine box_event ?hg (N := 4) ?hd (cs := #[.int .i64 0, .int .i64 0, .int .i64 0, .int .i64 0]) (t := 48) ?hr ?_; (case hd => rfl); (case hg => rfl); (case hr => first | (go_simp; done) | (go_simp; rfl)); intro gb127 hg w11 hbox hb; have n0_ := Aside0.mk (below_step (by repeat (first | (with_reducible first | exact HB.out | apply below_alloc | apply pw_below_drewN | apply below_drew1) | exact HB.out)) hb); have n1_ := Aside0.mk (hbox); have n2_ := Aside0.mk ((by rw [hg]; exact (below_size (by repeat (first | (with_reducible first | exact HB.out | apply below_alloc | apply pw_below_drewN | apply below_drew1) | exact HB.out))) : w.heap.size ≤ gb127)); have n3_ := Aside0.mk ((by rw [hg]; exact (below_size (by repeat (first | (with_reducible first | exact HB.out | apply below_alloc | apply pw_below_drewN | apply below_drew1) | exact HB.out))) : w.heap.size ≤ gb127)); clear HB; have HB := n0_; have BK127 := n1_; have GW127 := n2_; have GE127 := n3_; clear n0_ n1_ n2_ n3_; clear hb hbox hg; have hcz12_0 : w11.cell? ⟨gb127, 0, none⟩ = some (.int .i64 0) := (blk_cell BK127.out 0).trans rfl; have hcz12_1 : w11.cell? ⟨gb127, 1, none⟩ = some (.int .i64 0) := (blk_cell BK127.out 1).trans rfl; have hcz12_2 : w11.cell? ⟨gb127, 2, none⟩ = some (.int .i64 0) := (blk_cell BK127.out 2).trans rfl; have hcz12_3 : w11.cell? ⟨gb127, 3, none⟩ = some (.int .i64 0) := (blk_cell BK127.out 3).trans rfl; have hfz12_0 := blk_frozen BK127.out 0; have hfz12_1 := blk_frozen BK127.out 1; have hfz12_2 := blk_frozen BK127.out 2; have hfz12_3 := blk_frozen BK127.out 3))
         go_ret
         exact ⟨by first | rfl | (simp [errW_none, errW_some] <;> rfl) | (simp [*, errW_none, errW_some] <;> rfl), by repeat (first | (with_reducible first | exact HB.out | apply below_alloc | apply pw_below_drewN | apply below_drew1 | refine below_set ?_ GE127.out) | exact HB.out)⟩
        ·rw [if_neg c10] at H
         have c10b0 : ((Int.tmod (wrap64 (a0 - (rd [65, 192, 216, 913, 1040, 1024, 256, 330, 313, 377, 376] x6_1))) (rd [1, 1, 1, 1, 1, 1, 2, 2, 2, 2, 1] x6_1)) == 0) = false := beq_eq_false_iff_ne.mpr c10
         have c10b1 : ((Int.tmod (wrap64 (a0 - (rd [65, 192, 216, 913, 1040, 1024, 256, 330, 313, 377, 376] x6_1))) (rd [1, 1, 1, 1, 1, 1, 2, 2, 2, 2, 1] x6_1)) != 0) = true := bne_iff_ne.mpr c10
         have H' := Aside0.mk H
         clear H
         have p6 : 0 ≤ (x6_1 : Int) := of_decide_eq_true (by first | (with_reducible assumption) | assumption)
         have q6 : x6_1 < (11 : Int) := of_decide_eq_true (by first | (with_reducible assumption) | assumption)
         have hx6 : ∀ W_ : World, (Instr.index 49 (.agg #[.int .i64 65, .int .i64 90, .int .i64 1, .int .i64 32, .int .i64 192, .int .i64 214, .int .i64 1, .int .i64 32, .int .i64 216, .int .i64 222, .int .i64 1, .int .i64 32, .int .i64 913, .int .i64 937, .int .i64 1, .int .i64 32, .int .i64 1040, .int .i64 1071, .int .i64 1, .int .i64 32, .int .i64 1024, .int .i64 1039, .int .i64 1, .int .i64 80, .int .i64 256, .int .i64 310, .int .i64 2, .int .i64 1, .int .i64 330, .int .i64 374, .int .i64 2, .int .i64 1, .int .i64 313, .int .i64 327, .int .i64 2, .int .i64 1, .int .i64 377, .int .i64 381, .int .i64 2, .int .i64 1, .int .i64 376, .int .i64 376, .int .i64 1, .int .i64 (-121)]) (.int .i64 x6_1)).run Try.prog W_ = .ok (.agg #[.int .i64 (rd [65, 192, 216, 913, 1040, 1024, 256, 330, 313, 377, 376] x6_1), .int .i64 (rd [90, 214, 222, 937, 1071, 1039, 310, 374, 327, 381, 376] x6_1), .int .i64 (rd [1, 1, 1, 1, 1, 1, 2, 2, 2, 2, 1] x6_1), .int .i64 (rd [32, 32, 32, 32, 32, 80, 1, 1, 1, 1, (-121)] x6_1)]) W_ := (by intro W_; generalize x6_1 = jj_ at p6 q6 ⊢; rcases (show jj_ = 0 ∨ jj_ = 1 ∨ jj_ = 2 ∨ jj_ = 3 ∨ jj_ = 4 ∨ jj_ = 5 ∨ jj_ = 6 ∨ jj_ = 7 ∨ jj_ = 8 ∨ jj_ = 9 ∨ jj_ = 10 by omega) with hj_ | hj_ | hj_ | hj_ | hj_ | hj_ | hj_ | hj_ | hj_ | hj_ | hj_ <;> subst hj_ <;> (show _ = _; kernel_rfl))
         replace p6 := eq_true p6
         replace q6 := eq_true q6
         go_wp2_with (first | ((with_reducible refine gate_dst (N := 4) rfl ?_); refine box_event ?hg (N := 4) ?hd (cs := #[.int .i64 0, .int .i64 0, .int .i64 0, .int .i64 0]) (t := 48) ?hr ?_; (case hd => rfl); (case hg => rfl); (case hr => first | (go_simp; done) | (go_simp; rfl)); intro gb127 hg w13 hbox hb; have n0_ := Aside0.mk (below_step (by repeat (first | (with_reducible first | exact HB.out | apply below_alloc | apply pw_below_drewN | apply below_drew1) | exact HB.out)) hb); have n1_ := Aside0.mk (hbox); have n2_ := Aside0.mk ((by rw [hg]; exact (below_size (by repeat (first | (with_reducible first | exact HB.out | apply below_alloc | apply pw_below_drewN | apply below_drew1) | exact HB.out))) : w.heap.size ≤ gb127)); have n3_ := Aside0.mk ((by rw [hg]; exact (below_size (by repeat (first | (with_reducible first | exact HB.out | apply below_alloc | apply pw_below_drewN | apply below_drew1) | exact HB.out))) : w.heap.size ≤ gb127)); clear HB; have HB := n0_; have BK127 := n1_; have GW127 := n2_; have GE127 := n3_; clear n0_ n1_ n2_ n3_; clear hb hbox hg; have hcz14_0 : w13.cell? ⟨gb127, 0, none⟩ = some (.int .i64 0) := (blk_cell BK127.out 0).trans rfl; have hcz14_1 : w13.cell? ⟨gb127, 1, none⟩ = some (.int .i64 0) := (blk_cell BK127.out 1).trans rfl; have hcz14_2 : w13.cell? ⟨gb127, 2, none⟩ = some (.int .i64 0) := (blk_cell BK127.out 2).trans rfl; have hcz14_3 : w13.cell? ⟨gb127, 3, none⟩ = some (.int .i64 0) := (blk_cell BK127.out 3).trans rfl; have hfz14_0 := blk_frozen BK127.out 0; have hfz14_1 := blk_frozen BK127.out 1; have hfz14_2 := blk_frozen BK127.out 2; have hfz14_3 := blk_frozen BK127.out 3))
         go_roundg k1
         case measure => have := HK1.out; omega
         case rel => exact ⟨(wrap64 (x6_1 + 1)), (by first | rfl | (simp; done) | (simp [*]; done)), H', ⟨by have := HK1.out; omega⟩, ⟨by repeat (first | (with_reducible first | exact HB.out | apply below_alloc | apply pw_below_drewN | apply below_drew1 | refine below_set ?_ GE127.out) | exact HB.out)⟩⟩
      ·rw [if_neg c8] at H
       have c8b0 : decide (a0 ≤ (rd [90, 214, 222, 937, 1071, 1039, 310, 374, 327, 381, 376] x6_1)) = false := decide_eq_false c8
       clear c8
       have H' := Aside0.mk H
       clear H
       have p6 : 0 ≤ (x6_1 : Int) := of_decide_eq_true (by first | (with_reducible assumption) | assumption)
       have q6 : x6_1 < (11 : Int) := of_decide_eq_true (by first | (with_reducible assumption) | assumption)
       have hx6 : ∀ W_ : World, (Instr.index 49 (.agg #[.int .i64 65, .int .i64 90, .int .i64 1, .int .i64 32, .int .i64 192, .int .i64 214, .int .i64 1, .int .i64 32, .int .i64 216, .int .i64 222, .int .i64 1, .int .i64 32, .int .i64 913, .int .i64 937, .int .i64 1, .int .i64 32, .int .i64 1040, .int .i64 1071, .int .i64 1, .int .i64 32, .int .i64 1024, .int .i64 1039, .int .i64 1, .int .i64 80, .int .i64 256, .int .i64 310, .int .i64 2, .int .i64 1, .int .i64 330, .int .i64 374, .int .i64 2, .int .i64 1, .int .i64 313, .int .i64 327, .int .i64 2, .int .i64 1, .int .i64 377, .int .i64 381, .int .i64 2, .int .i64 1, .int .i64 376, .int .i64 376, .int .i64 1, .int .i64 (-121)]) (.int .i64 x6_1)).run Try.prog W_ = .ok (.agg #[.int .i64 (rd [65, 192, 216, 913, 1040, 1024, 256, 330, 313, 377, 376] x6_1), .int .i64 (rd [90, 214, 222, 937, 1071, 1039, 310, 374, 327, 381, 376] x6_1), .int .i64 (rd [1, 1, 1, 1, 1, 1, 2, 2, 2, 2, 1] x6_1), .int .i64 (rd [32, 32, 32, 32, 32, 80, 1, 1, 1, 1, (-121)] x6_1)]) W_ := (by intro W_; generalize x6_1 = jj_ at p6 q6 ⊢; rcases (show jj_ = 0 ∨ jj_ = 1 ∨ jj_ = 2 ∨ jj_ = 3 ∨ jj_ = 4 ∨ jj_ = 5 ∨ jj_ = 6 ∨ jj_ = 7 ∨ jj_ = 8 ∨ jj_ = 9 ∨ jj_ = 10 by omega) with hj_ | hj_ | hj_ | hj_ | hj_ | hj_ | hj_ | hj_ | hj_ | hj_ | hj_ <;> subst hj_ <;> (show _ = _; kernel_rfl))
       replace p6 := eq_true p6
       replace q6 := eq_true q6
       go_wp2_with (first | ((with_reducible refine gate_dst (N := 4) rfl ?_); refine box_event ?hg (N := 4) ?hd (cs := #[.int .i64 0, .int .i64 0, .int .i64 0, .int .i64 0]) (t := 48) ?hr ?_; (case hd => rfl); (case hg => rfl); (case hr => first | (go_simp; done) | (go_simp; rfl)); intro gb127 hg w15 hbox hb; have n0_ := Aside0.mk (below_step (by repeat (first | (with_reducible first | exact HB.out | apply below_alloc | apply pw_below_drewN | apply below_drew1) | exact HB.out)) hb); have n1_ := Aside0.mk (hbox); have n2_ := Aside0.mk ((by rw [hg]; exact (below_size (by repeat (first | (with_reducible first | exact HB.out | apply below_alloc | apply pw_below_drewN | apply below_drew1) | exact HB.out))) : w.heap.size ≤ gb127)); have n3_ := Aside0.mk ((by rw [hg]; exact (below_size (by repeat (first | (with_reducible first | exact HB.out | apply below_alloc | apply pw_below_drewN | apply below_drew1) | exact HB.out))) : w.heap.size ≤ gb127)); clear HB; have HB := n0_; have BK127 := n1_; have GW127 := n2_; have GE127 := n3_; clear n0_ n1_ n2_ n3_; clear hb hbox hg; have hcz16_0 : w15.cell? ⟨gb127, 0, none⟩ = some (.int .i64 0) := (blk_cell BK127.out 0).trans rfl; have hcz16_1 : w15.cell? ⟨gb127, 1, none⟩ = some (.int .i64 0) := (blk_cell BK127.out 1).trans rfl; have hcz16_2 : w15.cell? ⟨gb127, 2, none⟩ = some (.int .i64 0) := (blk_cell BK127.out 2).trans rfl; have hcz16_3 : w15.cell? ⟨gb127, 3, none⟩ = some (.int .i64 0) := (blk_cell BK127.out 3).trans rfl; have hfz16_0 := blk_frozen BK127.out 0; have hfz16_1 := blk_frozen BK127.out 1; have hfz16_2 := blk_frozen BK127.out 2; have hfz16_3 := blk_frozen BK127.out 3))
       go_roundg k1
       case measure => have := HK1.out; omega
       case rel => exact ⟨(wrap64 (x6_1 + 1)), (by first | rfl | (simp; done) | (simp [*]; done)), H', ⟨by have := HK1.out; omega⟩, ⟨by repeat (first | (with_reducible first | exact HB.out | apply below_alloc | apply pw_below_drewN | apply below_drew1 | refine below_set ?_ GE127.out) | exact HB.out)⟩⟩
     ·rw [if_neg c7] at H
      have c7b0 : decide ((rd [65, 192, 216, 913, 1040, 1024, 256, 330, 313, 377, 376] x6_1) ≤ a0) = false := decide_eq_false c7
      clear c7
      have H' := Aside0.mk H
      clear H
      have p6 : 0 ≤ (x6_1 : Int) := of_decide_eq_true (by first | (with_reducible assumption) | assumption)
      have q6 : x6_1 < (11 : Int) := of_decide_eq_true (by first | (with_reducible assumption) | assumption)
      have hx6 : ∀ W_ : World, (Instr.index 49 (.agg #[.int .i64 65, .int .i64 90, .int .i64 1, .int .i64 32, .int .i64 192, .int .i64 214, .int .i64 1, .int .i64 32, .int .i64 216, .int .i64 222, .int .i64 1, .int .i64 32, .int .i64 913, .int .i64 937, .int .i64 1, .int .i64 32, .int .i64 1040, .int .i64 1071, .int .i64 1, .int .i64 32, .int .i64 1024, .int .i64 1039, .int .i64 1, .int .i64 80, .int .i64 256, .int .i64 310, .int .i64 2, .int .i64 1, .int .i64 330, .int .i64 374, .int .i64 2, .int .i64 1, .int .i64 313, .int .i64 327, .int .i64 2, .int .i64 1, .int .i64 377, .int .i64 381, .int .i64 2, .int .i64 1, .int .i64 376, .int .i64 376, .int .i64 1, .int .i64 (-121)]) (.int .i64 x6_1)).run Try.prog W_ = .ok (.agg #[.int .i64 (rd [65, 192, 216, 913, 1040, 1024, 256, 330, 313, 377, 376] x6_1), .int .i64 (rd [90, 214, 222, 937, 1071, 1039, 310, 374, 327, 381, 376] x6_1), .int .i64 (rd [1, 1, 1, 1, 1, 1, 2, 2, 2, 2, 1] x6_1), .int .i64 (rd [32, 32, 32, 32, 32, 80, 1, 1, 1, 1, (-121)] x6_1)]) W_ := (by intro W_; generalize x6_1 = jj_ at p6 q6 ⊢; rcases (show jj_ = 0 ∨ jj_ = 1 ∨ jj_ = 2 ∨ jj_ = 3 ∨ jj_ = 4 ∨ jj_ = 5 ∨ jj_ = 6 ∨ jj_ = 7 ∨ jj_ = 8 ∨ jj_ = 9 ∨ jj_ = 10 by omega) with hj_ | hj_ | hj_ | hj_ | hj_ | hj_ | hj_ | hj_ | hj_ | hj_ | hj_ <;> subst hj_ <;> (show _ = _; kernel_rfl))
      replace p6 := eq_true p6
      replace q6 := eq_true q6
      go_wp2_with (first | ((with_reducible refine gate_dst (N := 4) rfl ?_); refine box_event ?hg (N := 4) ?hd (cs := #[.int .i64 0, .int .i64 0, .int .i64 0, .int .i64 0]) (t := 48) ?hr ?_; (case hd => rfl); (case hg => rfl); (case hr => first | (go_simp; done) | (go_simp; rfl)); intro gb127 hg w17 hbox hb; have n0_ := Aside0.mk (below_step (by repeat (first | (with_reducible first | exact HB.out | apply below_alloc | apply pw_below_drewN | apply below_drew1) | exact HB.out)) hb); have n1_ := Aside0.mk (hbox); have n2_ := Aside0.mk ((by rw [hg]; exact (below_size (by repeat (first | (with_reducible first | exact HB.out | apply below_alloc | apply pw_below_drewN | apply below_drew1) | exact HB.out))) : w.heap.size ≤ gb127)); have n3_ := Aside0.mk ((by rw [hg]; exact (below_size (by repeat (first | (with_reducible first | exact HB.out | apply below_alloc | apply pw_below_drewN | apply below_drew1) | exact HB.out))) : w.heap.size ≤ gb127)); clear HB; have HB := n0_; have BK127 := n1_; have GW127 := n2_; have GE127 := n3_; clear n0_ n1_ n2_ n3_; clear hb hbox hg; have hcz18_0 : w17.cell? ⟨gb127, 0, none⟩ = some (.int .i64 0) := (blk_cell BK127.out 0).trans rfl; have hcz18_1 : w17.cell? ⟨gb127, 1, none⟩ = some (.int .i64 0) := (blk_cell BK127.out 1).trans rfl; have hcz18_2 : w17.cell? ⟨gb127, 2, none⟩ = some (.int .i64 0) := (blk_cell BK127.out 2).trans rfl; have hcz18_3 : w17.cell? ⟨gb127, 3, none⟩ = some (.int .i64 0) := (blk_cell BK127.out 3).trans rfl; have hfz18_0 := blk_frozen BK127.out 0; have hfz18_1 := blk_frozen BK127.out 1; have hfz18_2 := blk_frozen BK127.out 2; have hfz18_3 := blk_frozen BK127.out 3))
      go_roundg k1
      case measure => have := HK1.out; omega
      case rel => exact ⟨(wrap64 (x6_1 + 1)), (by first | rfl | (simp; done) | (simp [*]; done)), H', ⟨by have := HK1.out; omega⟩, ⟨by repeat (first | (with_reducible first | exact HB.out | apply below_alloc | apply pw_below_drewN | apply below_drew1 | refine below_set ?_ GE127.out) | exact HB.out)⟩⟩
    ·rw [if_neg c5] at H
     exact absurd H (by simp)
   ·rw [if_neg c4] at H
    have c4b0 : decide (x6_1 < 11) = false := decide_eq_false c4
    clear c4
    obtain rfl := Option.some.inj H
    go_wp2
    go_ret
    exact ⟨by first | rfl | (simp [errW_none, errW_some] <;> rfl) | (simp [*, errW_none, errW_some] <;> rfl), by repeat (first | (with_reducible first | exact HB.out | apply below_alloc | apply pw_below_drewN | apply below_drew1) | exact HB.out)⟩

/-! ### glyph_directions_1: function 40 -/
def glyph_directions_1.f (k : Nat) (a0 : Int) : Option (Bool) := (glyph_Script.f k a0).bind fun t128 => (some (t128 != 0))
theorem glyph_directions_1.mono : ∀ a0 k, LeO (glyph_directions_1.f k a0) (glyph_directions_1.f (k + 1) a0) := by
 intro a0 k
 unfold glyph_directions_1.f
 repeat' first
   | (with_reducible exact glyph_Script.mono _ _)
   | (with_reducible exact LeO.refl _)
   | (with_reducible exact LeO.none _)
   | (with_reducible refine LeO.ite ?_ ?_)
   | (with_reducible refine LeO.bind ?_ (fun _ => ?_))
   | exact glyph_Script.mono _ _
   | exact LeO.none _
   | refine LeO.ite ?_ ?_
   | refine LeO.bind ?_ (fun _ => ?_)
set_option maxHeartbeats 8000000 in
set_option maxRecDepth 100000 in
theorem glyph_directions_1.calls (k : Nat) (a0 : Int) (r : Bool) (w : World) (h : glyph_directions_1.f k a0 = some r) :
  Calls Try.prog 40 #[.int .i64 a0] w fun e w' => e = .returned (.bool r) ∧ Below w.heap.size w w' := by
 have HB := Aside0.mk (Below.refl w.heap.size w)
 have H : ((glyph_Script.f k a0).bind fun t128 => (some (t128 != 0))) = some r := h
 clear h
 replace H := Option.bind_eq_some_iff.mp H
 obtain ⟨t128, A20, H⟩ := H
 replace H : (some (t128 != 0)) = some r := H
 have A2 := Aside0.mk A20
 clear A20
 obtain rfl := Option.some.inj H
 go_enter Try.func40, Try.ntmps40
 go_wp2_with (first | ((with_reducible refine gate_callee (f := 18) rfl ?_); refine goesL_ (some 4) rfl rfl Try.func18 (by kernel_rfl) rfl #[.int .i64 a0] rfl (by (try simp only [List.map_toArray, List.map_cons, List.map_nil]); first | done | rfl | (simp only [List.length_drop, List.length_take]; rfl)) ?_; (with_reducible refine (glyph_Script.calls k a0 t128 _ A2.out).mono ?_); rintro e w3 ⟨rfl, hb⟩; refine ⟨_, rfl, ?_⟩; have n0_ := Aside0.mk (below_step (by repeat (first | (with_reducible first | exact HB.out | apply below_alloc | apply pw_below_drewN | apply below_drew1) | exact HB.out)) hb); clear HB; have HB := n0_; clear n0_; (try clear hb); (try clear hb2); (try clear hk); (try clear hi)))
 go_ret
 exact ⟨by first | rfl | (simp [errW_none, errW_some] <;> rfl) | (simp [*, errW_none, errW_some] <;> rfl), by repeat (first | (with_reducible first | exact HB.out | apply below_alloc | apply pw_below_drewN | apply below_drew1) | exact HB.out)⟩

/-! ### glyph_directions_2: function 41 -/
def glyph_directions_2.f (k : Nat) (a0 : Int) : Option (Bool) := (glyph_Script.f k a0).bind fun t129 => (some (t129 == 4))
theorem glyph_directions_2.mono : ∀ a0 k, LeO (glyph_directions_2.f k a0) (glyph_directions_2.f (k + 1) a0) := by
 intro a0 k
 unfold glyph_directions_2.f
 repeat' first
   | (with_reducible exact glyph_Script.mono _ _)
   | (with_reducible exact LeO.refl _)
   | (with_reducible exact LeO.none _)
   | (with_reducible refine LeO.ite ?_ ?_)
   | (with_reducible refine LeO.bind ?_ (fun _ => ?_))
   | exact glyph_Script.mono _ _
   | exact LeO.none _
   | refine LeO.ite ?_ ?_
   | refine LeO.bind ?_ (fun _ => ?_)
set_option maxHeartbeats 8000000 in
set_option maxRecDepth 100000 in
theorem glyph_directions_2.calls (k : Nat) (a0 : Int) (r : Bool) (w : World) (h : glyph_directions_2.f k a0 = some r) :
  Calls Try.prog 41 #[.int .i64 a0] w fun e w' => e = .returned (.bool r) ∧ Below w.heap.size w w' := by
 have HB := Aside0.mk (Below.refl w.heap.size w)
 have H : ((glyph_Script.f k a0).bind fun t129 => (some (t129 == 4))) = some r := h
 clear h
 replace H := Option.bind_eq_some_iff.mp H
 obtain ⟨t129, A20, H⟩ := H
 replace H : (some (t129 == 4)) = some r := H
 have A2 := Aside0.mk A20
 clear A20
 obtain rfl := Option.some.inj H
 go_enter Try.func41, Try.ntmps41
 go_wp2_with (first | ((with_reducible refine gate_callee (f := 18) rfl ?_); refine goesL_ (some 4) rfl rfl Try.func18 (by kernel_rfl) rfl #[.int .i64 a0] rfl (by (try simp only [List.map_toArray, List.map_cons, List.map_nil]); first | done | rfl | (simp only [List.length_drop, List.length_take]; rfl)) ?_; (with_reducible refine (glyph_Script.calls k a0 t129 _ A2.out).mono ?_); rintro e w3 ⟨rfl, hb⟩; refine ⟨_, rfl, ?_⟩; have n0_ := Aside0.mk (below_step (by repeat (first | (with_reducible first | exact HB.out | apply below_alloc | apply pw_below_drewN | apply below_drew1) | exact HB.out)) hb); clear HB; have HB := n0_; clear n0_; (try clear hb); (try clear hb2); (try clear hk); (try clear hi)))
 go_ret
 exact ⟨by first | rfl | (simp [errW_none, errW_some] <;> rfl) | (simp [*, errW_none, errW_some] <;> rfl), by repeat (first | (with_reducible first | exact HB.out | apply below_alloc | apply pw_below_drewN | apply below_drew1) | exact HB.out)⟩

/-! ### slices_IndexFunc_int_int: function 42, by hand -/
set_option maxHeartbeats 8000000 in
theorem glyph_strong.calls (k : Nat) (a0 t : Int) (w : World) (h : glyph_Script.f k a0 = some t) :
    Calls Try.prog 40 #[.int .i64 a0] w fun e w' => e = .returned (.bool (t != 0)) ∧ Below w.heap.size w w' := by
  have A2 := Aside0.mk h
  clear h
  go_enter Try.func40, Try.ntmps40
  go_wp2_with (fail)
  go_at_call 18
  refine (glyph_Script.calls k a0 t _ A2.out).mono ?_
  rintro e w2 ⟨rfl, hb⟩
  go_wp2
  go_ret
  exact ⟨rfl, hb⟩
/-- Where the first code point stands that is not common to all scripts; -1: nowhere. -/
def slices_IndexFunc_int_int.l0 : Nat → List Int → Int → Option Int
  | 0, _, _ => none
  | k + 1, l, i => if i < (l.length : Int) then (glyph_Script.f k (rd l i)).bind fun t => (if t = 0 then slices_IndexFunc_int_int.l0 k l (i + 1) else some i) else some (-1)
/-- Its second argument is the function 'strong' of glyph.directions: no other one is given in this program. -/
def slices_IndexFunc_int_int.f (k : Nat) (l0 : List Int) (_a1 : Bool) : Option Int := slices_IndexFunc_int_int.l0 k l0 0
theorem slices_IndexFunc_int_int.mono_l : ∀ k l i, LeO (slices_IndexFunc_int_int.l0 k l i) (slices_IndexFunc_int_int.l0 (k + 1) l i)
  | 0 => fun _ _ r h => by simp [slices_IndexFunc_int_int.l0] at h
  | k + 1 => by
    intro l i
    unfold slices_IndexFunc_int_int.l0
    exact LeO.ite (LeO.bind (glyph_Script.mono _ k) (fun _ => LeO.ite (slices_IndexFunc_int_int.mono_l k _ _) (LeO.refl _))) (LeO.refl _)
theorem slices_IndexFunc_int_int.mono : ∀ a0 a1 k, LeO (slices_IndexFunc_int_int.f k a0 a1) (slices_IndexFunc_int_int.f (k + 1) a0 a1) := fun a0 _ k => slices_IndexFunc_int_int.mono_l k a0 0
set_option maxHeartbeats 8000000 in
set_option maxRecDepth 100000 in
theorem slices_IndexFunc_int_int.calls (k : Nat) (A0 : Option Addr) (c0 : Nat) (l0 : List Int) (a1 : Bool) (r : Int) (w : World) (hr0 : Kd.C (Kd.int .i64) w A0 l0.length l0) (hc0 : l0.length ≤ c0) (h : slices_IndexFunc_int_int.f k l0 a1 = some r) :
    Calls Try.prog 42 #[.slice A0 l0.length c0, .func (.func 40) #[] #[]] w fun e w' => e = .returned (.int .i64 r) ∧ Below w.heap.size w w' := by
  have H' : Aside0 (slices_IndexFunc_int_int.l0 k l0 0 = some r) := ⟨h⟩
  clear h
  have HR0 := Aside0.mk hr0
  have hmax := hr0.2.1
  clear hr0 hc0
  have HB := Aside0.mk (Below.refl w.heap.size w)
  go_enter Try.func42, Try.ntmps42
  go_wp2
  go_loopg [5, 8] k (fun kq _ v8 w' => ∃ i : Int, v8 = .int .i64 i ∧ 0 ≤ i ∧ Aside0 (slices_IndexFunc_int_int.l0 kq l0 i = some r) ∧ Aside0 (kq ≤ k) ∧ Aside0 (Below w.heap.size w w'))
  case atStart => exact ⟨0, rfl, by omega, H', ⟨Nat.le_refl _⟩, HB⟩
  case round =>
    clear H' HB
    obtain ⟨i, rfl, i0, HA, HK1, HB⟩ := hrel
    cases gk with
    | zero => exact absurd HA.out (by simp [slices_IndexFunc_int_int.l0])
    | succ k1 =>
      have H := HA.out
      clear HA
      simp only [slices_IndexFunc_int_int.l0] at H
      by_cases c : i < (l0.length : Int)
      · rw [if_pos c] at H
        replace H := Option.bind_eq_some_iff.mp H
        obtain ⟨t1, A1, H⟩ := H
        have A2 := Aside0.mk A1
        clear A1
        obtain ⟨ad, ea, hx0⟩ := Kd.at_int HR0.out i i0 c
        cases ea
        replace hx0 := (HB.out.cell (World.block_lt_of_cell? w _ hx0)).trans hx0
        have cb : decide (i < (l0.length : Int)) = true := decide_eq_true c
        have q0 := eq_true i0
        have q1 := eq_true c
        obtain ⟨i', hi'⟩ : ∃ i' : Int, i + 1 = i' := ⟨_, rfl⟩
        have hiw : IntKind.i64.wrap (i + 1) = i' := by rw [i64_w, hi']; unfold wrap64; omega
        rw [hi'] at H
        have i0' : 0 ≤ i' := by omega
        by_cases c2 : t1 = 0
        · rw [if_pos c2] at H
          have H' := Aside0.mk H
          have c2b : (t1 != 0) = false := by rw [c2]; rfl
          clear H c2
          go_wp2_with (fail)
          go_at_call 40
          refine (glyph_strong.calls k1 (rd l0 i) t1 _ A2.out).mono ?_
          rintro e w2 ⟨rfl, hb⟩
          have HB' := Aside0.mk (below_step HB.out hb)
          clear HB hb
          go_wp2
          go_roundg k1
          case measure => have := HK1.out; omega
          case rel => exact ⟨i', rfl, i0', H', ⟨by have := HK1.out; omega⟩, HB'⟩
        · rw [if_neg c2] at H
          have c2b : (t1 != 0) = true := bne_iff_ne.mpr c2
          simp only [Option.some.injEq] at H
          subst H
          clear c2
          go_wp2_with (fail)
          go_at_call 40
          refine (glyph_strong.calls k1 (rd l0 i) t1 _ A2.out).mono ?_
          rintro e w2 ⟨rfl, hb⟩
          go_wp2
          go_ret
          exact ⟨rfl, below_step HB.out hb⟩
      · rw [if_neg c] at H
        have cb : decide (i < (l0.length : Int)) = false := decide_eq_false c
        simp only [Option.some.injEq] at H
        subst H
        go_wp2
        go_ret
        exact ⟨rfl, HB.out⟩

/-! ### glyph_directions: function 33 -/
mutual
def glyph_directions.j0 : Nat → List Int → Bool → Option (List Bool × Bool)
 | 0, _, _ => none
 | k + 1, x0, x6 => if 0 ≤ (x0.length : Int) then (if ((x0.length : Int) : Int).toNat ≤ 281474976710656 then (glyph_directions.l0 k x0 x6 (List.replicate ((x0.length : Int) : Int).toNat false) x6 x0 (x0.length : Int) 0) else (none)) else (none)
def glyph_directions.l0 : Nat → List Int → Bool → List Bool → Bool → List Int → Int → Int → Option (List Bool × Bool)
 | 0, _, _, _, _, _, _, _ => none
 | k + 1, x0, x6, x8, x9, x29, x30, x31 => if x31 < x30 then (if 0 ≤ x31 then (if x31 < (x29.length : Int) then ((glyph_directions_1.f k (rd x29 x31)).bind fun t137 => (if t137 = true then ((glyph_directions_2.f k (rd x29 x31)).bind fun t138 => (if x31 < (x8.length : Int) then (glyph_directions.l0 k x0 x6 (x8.set (x31 : Int).toNat t138) t138 x29 x30 (wrap64 (x31 + 1))) else (none))) else (if x31 < (x8.length : Int) then (glyph_directions.l0 k x0 x6 (x8.set (x31 : Int).toNat x9) x9 x29 x30 (wrap64 (x31 + 1))) else (none)))) else (none)) else (none)) else (glyph_directions.l1 k x0 x6 x8 x6 (wrap64 ((x0.length : Int) - 1)))
def glyph_directions.l1 : Nat → List Int → Bool → List Bool → Bool → Int → Option (List Bool × Bool)
 | 0, _, _, _, _, _ => none
 | k + 1, x0, x6, x8, x12, x13 => if x13 ≥ 0 then (if 0 ≤ x13 then (if x13 < (x0.length : Int) then ((glyph_directions_1.f k (rd x0 x13)).bind fun t142 => (if t142 = true then ((glyph_directions_2.f k (rd x0 x13)).bind fun t144 => (glyph_directions.l1 k x0 x6 x8 t144 (wrap64 (x13 - 1)))) else (if x13 < (x8.length : Int) then (if (x12 != (rdOf false x8 x13)) = true then (glyph_directions.l1 k x0 x6 (x8.set (x13 : Int).toNat x6) x12 (wrap64 (x13 - 1))) else (glyph_directions.l1 k x0 x6 x8 x12 (wrap64 (x13 - 1)))) else (none)))) else (none)) else (none)) else (some (x8, x6))
end
def glyph_directions.f (k : Nat) (l0 : List Int) : Option (List Bool × Bool) := (slices_IndexFunc_int_int.f k l0 false).bind fun t130 => (if t130 ≥ 0 then (if 0 ≤ t130 then (if t130 < (l0.length : Int) then ((glyph_directions_2.f k (rd l0 t130)).bind fun t132 => (glyph_directions.j0 k l0 t132)) else (none)) else (none)) else (glyph_directions.j0 k l0 false))
theorem glyph_directions.mono_l : ∀ k, (∀ y0 y1, LeO (glyph_directions.j0 k y0 y1) (glyph_directions.j0 (k + 1) y0 y1)) ∧ (∀ y0 y1 y2 y3 y4 y5 y6, LeO (glyph_directions.l0 k y0 y1 y2 y3 y4 y5 y6) (glyph_directions.l0 (k + 1) y0 y1 y2 y3 y4 y5 y6)) ∧ (∀ y0 y1 y2 y3 y4, LeO (glyph_directions.l1 k y0 y1 y2 y3 y4) (glyph_directions.l1 (k + 1) y0 y1 y2 y3 y4))
 | 0 => ⟨fun _ _ r h => by simp [glyph_directions.j0] at h, fun _ _ _ _ _ _ _ r h => by simp [glyph_directions.l0] at h, fun _ _ _ _ _ r h => by simp [glyph_directions.l1] at h⟩
 | k + 1 => by
  obtain ⟨ih0, ih1, ih2⟩ := glyph_directions.mono_l k
  refine ⟨?_, ?_, ?_⟩
  ·intro y0 y1
   unfold glyph_directions.j0
   repeat' first
   | (with_reducible exact ih0 _ _)
   | (with_reducible exact ih1 _ _ _ _ _ _ _)
   | (with_reducible exact ih2 _ _ _ _ _)
   | (with_reducible exact glyph_directions_1.mono _ _)
   | (with_reducible exact glyph_directions_2.mono _ _)
   | (with_reducible exact slices_IndexFunc_int_int.mono _ _ _)
   | (with_reducible exact LeO.refl _)
   | (with_reducible exact LeO.none _)
   | (with_reducible refine LeO.ite ?_ ?_)
   | (with_reducible refine LeO.bind ?_ (fun _ => ?_))
   | exact ih0 _ _
   | exact ih1 _ _ _ _ _ _ _
   | exact ih2 _ _ _ _ _
   | exact glyph_directions_1.mono _ _
   | exact glyph_directions_2.mono _ _
   | exact slices_IndexFunc_int_int.mono _ _ _
   | exact LeO.none _
   | refine LeO.ite ?_ ?_
   | refine LeO.bind ?_ (fun _ => ?_)
  ·intro y0 y1 y2 y3 y4 y5 y6
   unfold glyph_directions.l0
   repeat' first
   | (with_reducible exact ih0 _ _)
   | (with_reducible exact ih1 _ _ _ _ _ _ _)
   | (with_reducible exact ih2 _ _ _ _ _)
   | (with_reducible exact glyph_directions_1.mono _ _)
   | (with_reducible exact glyph_directions_2.mono _ _)
   | (with_reducible exact slices_IndexFunc_int_int.mono _ _ _)
   | (with_reducible exact LeO.refl _)
   | (with_reducible exact LeO.none _)
   | (with_reducible refine LeO.ite ?_ ?_)
   | (with_reducible refine LeO.bind ?_ (fun _ => ?_))
   | exact ih0 _ _
   | exact ih1 _ _ _ _ _ _ _
   | exact ih2 _ _ _ _ _
   | exact glyph_directions_1.mono _ _
   | exact glyph_directions_2.mono _ _
   | exact slices_IndexFunc_int_int.mono _ _ _
   | exact LeO.none _
   | refine LeO.ite ?_ ?_
   | refine LeO.bind ?_ (fun _ => ?_)
  ·intro y0 y1 y2 y3 y4
   unfold glyph_directions.l1
   repeat' first
   | (with_reducible exact ih0 _ _)
   | (with_reducible exact ih1 _ _ _ _ _ _ _)
   | (with_reducible exact ih2 _ _ _ _ _)
   | (with_reducible exact glyph_directions_1.mono _ _)
   | (with_reducible exact glyph_directions_2.mono _ _)
   | (with_reducible exact slices_IndexFunc_int_int.mono _ _ _)
   | (with_reducible exact LeO.refl _)
   | (with_reducible exact LeO.none _)
   | (with_reducible refine LeO.ite ?_ ?_)
   | (with_reducible refine LeO.bind ?_ (fun _ => ?_))
   | exact ih0 _ _
   | exact ih1 _ _ _ _ _ _ _
   | exact ih2 _ _ _ _ _
   | exact glyph_directions_1.mono _ _
   | exact glyph_directions_2.mono _ _
   | exact slices_IndexFunc_int_int.mono _ _ _
   | exact LeO.none _
   | refine LeO.ite ?_ ?_
   | refine LeO.bind ?_ (fun _ => ?_)
theorem glyph_directions.mono : ∀ a0 k, LeO (glyph_directions.f k a0) (glyph_directions.f (k + 1) a0) := by
 intro a0 k
 obtain ⟨ih0, ih1, ih2⟩ := glyph_directions.mono_l k
 unfold glyph_directions.f
 repeat' first
   | (with_reducible exact ih0 _ _)
   | (with_reducible exact ih1 _ _ _ _ _ _ _)
   | (with_reducible exact ih2 _ _ _ _ _)
   | (with_reducible exact glyph_directions_1.mono _ _)
   | (with_reducible exact glyph_directions_2.mono _ _)
   | (with_reducible exact slices_IndexFunc_int_int.mono _ _ _)
   | (with_reducible exact LeO.refl _)
   | (with_reducible exact LeO.none _)
   | (with_reducible refine LeO.ite ?_ ?_)
   | (with_reducible refine LeO.bind ?_ (fun _ => ?_))
   | exact ih0 _ _
   | exact ih1 _ _ _ _ _ _ _
   | exact ih2 _ _ _ _ _
   | exact glyph_directions_1.mono _ _
   | exact glyph_directions_2.mono _ _
   | exact slices_IndexFunc_int_int.mono _ _ _
   | exact LeO.none _
   | refine LeO.ite ?_ ?_
   | refine LeO.bind ?_ (fun _ => ?_)
set_option maxHeartbeats 8000000 in
set_option maxRecDepth 100000 in
theorem glyph_directions.calls (k : Nat) (A0 : Option Addr) (c0 : Nat) (l0 : List Int) (r1 : List Bool) (r2 : Bool) (w : World) (hr0 : Kd.C (Kd.int .i64) w A0 l0.length l0) (hc0 : l0.length ≤ c0) (h : glyph_directions.f k l0 = some (r1, r2)) :
  Calls Try.prog 33 #[.slice A0 l0.length c0] w fun e w' => ∃ v0_ : Value, e = .returned (.tuple #[v0_, .bool r2]) ∧ Kd.R Kd.bool 4 w' w.heap.size (fun _ => True) v0_ r1 ∧ Below w.heap.size w w' := by
 have HR0 := Aside0.mk hr0
 have HC0 := Aside0.mk hc0
 clear hr0 hc0
 have HB := Aside0.mk (Below.refl w.heap.size w)
 have H : ((slices_IndexFunc_int_int.f k l0 false).bind fun t130 => (if t130 ≥ 0 then (if 0 ≤ t130 then (if t130 < (l0.length : Int) then ((glyph_directions_2.f k (rd l0 t130)).bind fun t132 => (glyph_directions.j0 k l0 t132)) else (none)) else (none)) else (glyph_directions.j0 k l0 false))) = some (r1, r2) := h
 clear h
 replace H := Option.bind_eq_some_iff.mp H
 obtain ⟨t130, A20, H⟩ := H
 replace H : (if t130 ≥ 0 then (if 0 ≤ t130 then (if t130 < (l0.length : Int) then ((glyph_directions_2.f k (rd l0 t130)).bind fun t132 => (glyph_directions.j0 k l0 t132)) else (none)) else (none)) else (glyph_directions.j0 k l0 false)) = some (r1, r2) := H
 have A2 := Aside0.mk A20
 clear A20
 have HC3 := Aside0.mk H
 clear H
 go_enter Try.func33, Try.ntmps33
 go_upto_if 18 with (first | ((with_reducible refine gate_callee (f := 42) rfl ?_); refine goesL_ (some 16) rfl rfl Try.func42 (by kernel_rfl) rfl #[.slice A0 l0.length c0, .func (.func 40) #[] #[]] rfl (by (try simp only [List.map_toArray, List.map_cons, List.map_nil]); first | done | rfl | (simp only [List.length_drop, List.length_take]; rfl)) ?_; (with_reducible refine (slices_IndexFunc_int_int.calls k _ _ l0 false t130 _ ?side1 ?side2 A2.out).mono ?_); (case side1 => repeat (first | exact HR0.out | (with_reducible refine Kd.C_alloc ?_ _) | (with_reducible refine Kd.C_drewN ?_ _) | (with_reducible refine Kd.C_drew ?_))); (case side2 => exact HC0.out); rintro e w4 ⟨rfl, hb⟩; refine ⟨_, rfl, ?_⟩; have n0_ := Aside0.mk (below_step (by repeat (first | (with_reducible first | exact HB.out | apply below_alloc | apply pw_below_drewN | apply below_drew1) | exact HB.out)) hb); clear HB; have HB := n0_; clear n0_; (try clear hb); (try clear hb2); (try clear hk); (try clear hi)))
 (try simp only [Act.put, List.setIfInBounds_toArray, List.set_cons_zero, List.set_cons_succ])
 go_cut [6] (fun v6 wc => ∃ (kq : Nat) (x6_2 : Bool), v6 = .bool x6_2 ∧ Aside0 (glyph_directions.j0 kq l0 x6_2 = some (r1, r2)) ∧ Aside0 (kq ≤ k) ∧ Aside0 (Below w.heap.size w wc))
 case first =>
  have H := HC3.out
  clear HC3
  by_cases c5 : t130 ≥ 0
  ·rw [if_pos c5] at H
   have c5b0 : decide (0 ≤ t130) = true := decide_eq_true c5
   clear c5
   (first | rw [c5b0] | (simp only [i64_w, i32_w]; rw [c5b0]) | skip)
   by_cases c6 : 0 ≤ t130
   ·rw [if_pos c6] at H
    have c6b0 : decide (0 ≤ t130) = true := decide_eq_true c6
    clear c6
    by_cases c7 : t130 < (l0.length : Int)
    ·rw [if_pos c7] at H
     have c7b0 : decide (t130 < (l0.length : Int)) = true := decide_eq_true c7
     clear c7
     replace H := Option.bind_eq_some_iff.mp H
     obtain ⟨t132, A80, H⟩ := H
     replace H : (glyph_directions.j0 k l0 t132) = some (r1, r2) := H
     have A8 := Aside0.mk A80
     clear A80
     have H' := Aside0.mk H
     clear H
     have p131 : 0 ≤ (t130 : Int) := of_decide_eq_true (by first | (with_reducible assumption) | assumption)
     have q131 : t130 < (l0.length : Int) := of_decide_eq_true (by first | (with_reducible assumption) | assumption)
     obtain ⟨ad131, e131, hx131_0⟩ := Kd.at_int HR0.out t130 p131 q131
     cases e131
     replace hx131_0 := (HB.out.cell (World.block_lt_of_cell? w _ hx131_0)).trans hx131_0
     replace p131 := eq_true p131
     replace q131 := eq_true q131
     go_wp2_with (first | (go_at_call 41; (with_reducible refine (glyph_directions_2.calls k (rd l0 t130) t132 _ A8.out).mono ?_); rintro e w9 ⟨rfl, hb⟩; have n0_ := Aside0.mk (below_step (by repeat (first | (with_reducible first | exact HB.out | apply below_alloc | apply pw_below_drewN | apply below_drew1) | exact HB.out)) hb); clear HB; have HB := n0_; clear n0_; (try clear hb); (try clear hb2); (try clear hk); (try clear hi)))
     go_meet
     case rel => exact ⟨_, (t132), (by first | rfl | (simp; done) | (simp [*]; done)), H', ⟨by first | omega | exact Nat.le_refl _⟩, ⟨by repeat (first | (with_reducible first | exact HB.out | apply below_alloc | apply pw_below_drewN | apply below_drew1) | exact HB.out)⟩⟩
    ·rw [if_neg c7] at H
     exact absurd H (by simp)
   ·rw [if_neg c6] at H
    exact absurd H (by simp)
  ·rw [if_neg c5] at H
   have c5b0 : decide (0 ≤ t130) = false := decide_eq_false c5
   clear c5
   (first | rw [c5b0] | (simp only [i64_w, i32_w]; rw [c5b0]) | skip)
   have H' := Aside0.mk H
   clear H
   go_wp2
   go_meet
   case rel => exact ⟨_, (false), (by first | rfl | (simp; done) | (simp [*]; done)), H', ⟨by first | omega | exact Nat.le_refl _⟩, ⟨by repeat (first | (with_reducible first | exact HB.out | apply below_alloc | apply pw_below_drewN | apply below_drew1) | exact HB.out)⟩⟩
 case rest =>
  clear HC3
  try clear p1
  try clear q1
  try clear hx1
  try clear p2
  try clear c3
  try clear c4
  try clear c5
  try clear c5b0
  try clear c6
  try clear c6b0
  try clear c7
  try clear c7b0
  try clear hx131_0
  try clear p131
  try clear q131
  obtain ⟨kq, x6_2, rfl, HA, HJ2, HB⟩ := hcut
  cases kq with
  | zero => exact absurd HA.out (by simp [glyph_directions.j0])
  | succ kj2 =>
   have H := HA.out
   clear HA
   simp only [glyph_directions.j0] at H
   by_cases c10 : 0 ≤ (l0.length : Int)
   ·rw [if_pos c10] at H
    have c10b0 := eq_true c10
    have c10b1 : decide (0 ≤ (l0.length : Int)) = true := decide_eq_true c10
    clear c10
    by_cases c11 : ((l0.length : Int) : Int).toNat ≤ 281474976710656
    ·rw [if_pos c11] at H
     have c11b0 := eq_true c11
     have c11b1 : decide (((l0.length : Int) : Int).toNat ≤ 281474976710656) = true := decide_eq_true c11
     clear c11
     obtain ⟨y133, hy133⟩ : ∃ y_ : List Bool, y_ = (List.replicate ((l0.length : Int) : Int).toNat false) := ⟨_, rfl⟩
     replace H : (glyph_directions.l0 kj2 l0 x6_2 y133 x6_2 l0 (l0.length : Int) 0) = some (r1, r2) := by first | (rw [hy133]; with_reducible exact H) | (have H2_ := (Option.bind_some _ _).symm.trans H; rw [hy133]; with_reducible exact H2_) | (have H2_ := (Option.bind_some _ _).symm.trans H; with_reducible exact H2_) | with_reducible exact H | (rw [hy133]; exact H) | exact H
     have Ny133 := Aside0.mk hy133
     clear hy133
     have H' := Aside0.mk H
     clear H
     go_wp2_with (first | ((with_reducible refine gate_dst (N := 27) rfl ?_); refine Kd.R_make Kd.bool _ 4 rfl (N := 27) rfl 51 _ _ rfl (l0.length : Int) rfl rfl Try.underlying51 (.bool false) 1 info4 rfl (by decide) (by omega) false (ok := fun _ => True) (okp := fun _ => True) rfl (fun _ hk => hk) trivial (of_decide_eq_true (by first | (with_reducible assumption) | assumption)) (Nat.le_trans (Nat.mul_le_mul_right _ (of_decide_eq_true (by first | (with_reducible assumption) | assumption) : (l0.length : Int).toNat ≤ 281474976710656)) (by omega)) (Below.refl _ _) (Nat.le_refl _) ?_; intro v134 w12 ho13 hb hg_ hnew_; clear hg_ hnew_; (first | rw [← Ny133.out] at ho13 | (simp only [Int.reduceToNat] at ho13; rw [← Ny133.out] at ho13)); have n0_ := Aside0.mk (Kd.R_lower ho13 (below_size (by repeat (first | (with_reducible first | exact HB.out | apply below_alloc | apply pw_below_drewN | apply below_drew1) | exact HB.out)))); have n1_ := Aside0.mk (below_step (by repeat (first | (with_reducible first | exact HB.out | apply below_alloc | apply pw_below_drewN | apply below_drew1) | exact HB.out)) hb); clear HB; have HO135 := n0_; have HB := n1_; clear n0_ n1_; clear hb ho13))
     go_loopg [9, 31] kj2 (fun kq v9 v31 w' => ∃ (x8_2 : List Bool) (x9_2 : Bool) (x31_2 : Int), v9 = .bool x9_2 ∧ v31 = .int .i64 x31_2 ∧ Aside0 (glyph_directions.l0 kq l0 x6_2 x8_2 x9_2 l0 (l0.length : Int) x31_2 = some (r1, r2)) ∧ Aside0 (kq ≤ kj2) ∧ Aside0 (Kd.R Kd.bool 4 w' w.heap.size (fun _ => True) v134 x8_2) ∧ Aside0 (Below w.heap.size w w'))
     case atStart => exact ⟨(y133), (x6_2), (0), (by first | rfl | (simp; done) | (simp [*]; done)), (by first | rfl | (simp; done) | (simp [*]; done)), H', ⟨Nat.le_refl _⟩, ⟨by (with_reducible repeat (first | apply Kd.R_alloc | apply Kd.R_drewN | apply Kd.R_drew)); exact HO135.out⟩, ⟨by repeat (first | (with_reducible first | exact HB.out | apply below_alloc | apply pw_below_drewN | apply below_drew1) | exact HB.out)⟩⟩
     case round =>
      clear H'
      try clear c1
      try clear p1
      try clear q1
      try clear hx1
      try clear p2
      try clear c3
      try clear c4
      try clear c5
      try clear c5b0
      try clear c6
      try clear c6b0
      try clear c7
      try clear c7b0
      try clear c10
      try clear c10b0
      try clear c10b1
      try clear c11
      try clear c11b0
      try clear c11b1
      try clear p13
      try clear q13
      try clear hx13
      try clear hx131_0
      try clear p1
      try clear p131
      try clear p2
      try clear q1
      try clear q131
      obtain ⟨x8_2, x9_2, x31_2, rfl, rfl, HA, HK2, HO_8, HB⟩ := hrel
      cases gk with
      | zero => exact absurd HA.out (by simp [glyph_directions.l0])
      | succ k2 =>
       have H := HA.out
       clear HA
       simp only [glyph_directions.l0] at H
       by_cases c14 : x31_2 < (l0.length : Int)
       ·rw [if_pos c14] at H
        have c14b0 : decide (x31_2 < (l0.length : Int)) = true := decide_eq_true c14
        clear c14
        by_cases c15 : 0 ≤ x31_2
        ·rw [if_pos c15] at H
         have c15b0 : decide (0 ≤ x31_2) = true := decide_eq_true c15
         clear c15
         by_cases c16 : x31_2 < (l0.length : Int)
         ·rw [if_pos c16] at H
          have c16b0 : decide (x31_2 < (l0.length : Int)) = true := decide_eq_true c16
          clear c16
          replace H := Option.bind_eq_some_iff.mp H
          obtain ⟨t137, A170, H⟩ := H
          replace H : (if t137 = true then ((glyph_directions_2.f k2 (rd l0 x31_2)).bind fun t138 => (if x31_2 < (x8_2.length : Int) then (glyph_directions.l0 k2 l0 x6_2 (x8_2.set (x31_2 : Int).toNat t138) t138 l0 (l0.length : Int) (wrap64 (x31_2 + 1))) else (none))) else (if x31_2 < (x8_2.length : Int) then (glyph_directions.l0 k2 l0 x6_2 (x8_2.set (x31_2 : Int).toNat x9_2) x9_2 l0 (l0.length : Int) (wrap64 (x31_2 + 1))) else (none))) = some (r1, r2) := H
          have A17 := Aside0.mk A170
          clear A170
          by_cases c18 : t137 = true
          ·subst c18
           have H1 : ((glyph_directions_2.f k2 (rd l0 x31_2)).bind fun t138 => (if x31_2 < (x8_2.length : Int) then (glyph_directions.l0 k2 l0 x6_2 (x8_2.set (x31_2 : Int).toNat t138) t138 l0 (l0.length : Int) (wrap64 (x31_2 + 1))) else (none))) = some (r1, r2) := by rw [if_pos rfl] at H; exact H
           clear H
           have H := H1
           clear H1
           replace H := Option.bind_eq_some_iff.mp H
           obtain ⟨t138, A190, H⟩ := H
           replace H : (if x31_2 < (x8_2.length : Int) then (glyph_directions.l0 k2 l0 x6_2 (x8_2.set (x31_2 : Int).toNat t138) t138 l0 (l0.length : Int) (wrap64 (x31_2 + 1))) else (none)) = some (r1, r2) := H
           have A19 := Aside0.mk A190
           clear A190
           by_cases c20 : x31_2 < (x8_2.length : Int)
           ·rw [if_pos c20] at H
            have c20b0 : decide (x31_2 < (x8_2.length : Int)) = true := decide_eq_true c20
            clear c20
            obtain ⟨y139, hy139⟩ : ∃ y_ : List Bool, y_ = (x8_2.set (x31_2 : Int).toNat t138) := ⟨_, rfl⟩
            replace H : (glyph_directions.l0 k2 l0 x6_2 y139 t138 l0 (l0.length : Int) (wrap64 (x31_2 + 1))) = some (r1, r2) := by first | (rw [hy139]; with_reducible exact H) | (have H2_ := (Option.bind_some _ _).symm.trans H; rw [hy139]; with_reducible exact H2_) | (have H2_ := (Option.bind_some _ _).symm.trans H; with_reducible exact H2_) | with_reducible exact H | (rw [hy139]; exact H) | exact H
            have Ny139 := Aside0.mk hy139
            clear hy139
            have H' := Aside0.mk H
            clear H
            have p136 : 0 ≤ (x31_2 : Int) := of_decide_eq_true (by first | (with_reducible assumption) | assumption)
            have q136 : x31_2 < (l0.length : Int) := of_decide_eq_true (by first | (with_reducible assumption) | assumption)
            obtain ⟨ad136, e136, hx136_0⟩ := Kd.at_int HR0.out x31_2 p136 q136
            cases e136
            replace hx136_0 := (HB.out.cell (World.block_lt_of_cell? w _ hx136_0)).trans hx136_0
            replace p136 := eq_true p136
            replace q136 := eq_true q136
            go_wp2_with (first | (go_at_call 40; (with_reducible refine (glyph_directions_1.calls k2 (rd l0 x31_2) true _ A17.out).mono ?_); rintro e w22 ⟨rfl, hb⟩; have n0_ := Aside0.mk (Kd.R_below (by (with_reducible repeat (first | apply Kd.R_alloc | apply Kd.R_drewN | apply Kd.R_drew)); exact HO_8.out) hb); have n1_ := Aside0.mk (below_step (by repeat (first | (with_reducible first | exact HB.out | apply below_alloc | apply pw_below_drewN | apply below_drew1) | exact HB.out)) hb); clear HO_8; clear HB; have HO_8 := n0_; have HB := n1_; clear n0_ n1_; (try clear hb); (try clear hb2); (try clear hk); (try clear hi)) | (go_at_call 41; (with_reducible refine (glyph_directions_2.calls k2 (rd l0 x31_2) t138 _ A19.out).mono ?_); rintro e w23 ⟨rfl, hb⟩; have n0_ := Aside0.mk (Kd.R_below (by (with_reducible repeat (first | apply Kd.R_alloc | apply Kd.R_drewN | apply Kd.R_drew)); exact HO_8.out) hb); have n1_ := Aside0.mk (below_step (by repeat (first | (with_reducible first | exact HB.out | apply below_alloc | apply pw_below_drewN | apply below_drew1) | exact HB.out)) hb); clear HO_8; clear HB; have HO_8 := n0_; have HB := n1_; clear n0_ n1_; (try clear hb); (try clear hb2); (try clear hk); (try clear hi); have p21 : 0 ≤ (x31_2 : Int) := of_decide_eq_true (by first | (with_reducible assumption) | assumption); have q21 : (x31_2 : Int) < ((x8_2.length : Int) : Int) := of_decide_eq_true (by first | (with_reducible assumption) | assumption); obtain ⟨go21, co21, eo21, gb21, gl21, cl21, HG21⟩ := Kd.R_form HO_8.out (by omega); (first | cases eo21 | (injection eo21 with ea_ en_ ec_; (first | subst ea_ | (injection ea_ with ea_; subst ea_)); subst ec_; clear en_)); have GB21 := Aside0.mk gb21; have GG21 := Aside0.mk HG21; clear gb21 gl21 HG21; obtain ⟨hx21_0, hf21_0⟩ := Kd.R_celln false HO_8.out (x31_2 : Int) p21 q21; replace p21 := eq_true p21; replace q21 := eq_true q21; obtain ⟨hy24_, hz24_⟩ := Kd.R_celln false HO_8.out (x31_2 : Int) (of_decide_eq_true (by first | (with_reducible assumption) | assumption)) (of_decide_eq_true (by first | (with_reducible assumption) | assumption)); have HP24 := Kd.R_putg HO_8.out (x31_2 : Int) t138) | ((with_reducible refine gate_store (t := 4) (p := 45) rfl ?_); refine store_event (t := 4) (p := 45) (v := ?vo_w25) (w1 := (w23.setCell ⟨go21, (x31_2 : Int).toNat, none⟩ (.bool t138))) ?hg ?ho ?hn ?hr ?_; (case ho => rfl); (case hg => rfl); (case hn => rfl); (case hr => first | (go_simp; done) | (go_simp; rfl)); intro w25 hw; have hg : w23.grownBy w25 (some go21) := (by rw [hw]; exact HP24.2); have hp_ : Kd.R Kd.bool 4 w25 w.heap.size (fun _ => True) (.slice (some ⟨go21, 0, none⟩) x8_2.length co21) y139 := (by rw [hw, Ny139.out]; exact HP24.1); clear HP24; have n0_ := Aside0.mk (hp_); have n1_ := Aside0.mk ((by rw [hw]; exact below_set (HB.out) GB21.out : Below w.heap.size w w25)); clear HO_8; clear HB; have HO_8 := n0_; have HB := n1_; clear n0_ n1_; clear hg hw hp_))
            go_roundg k2
            case measure => have := HJ2.out; have := HK2.out; omega
            case rel => exact ⟨(y139), (t138), (wrap64 (x31_2 + 1)), (by first | rfl | (simp; done) | (simp [*]; done)), (by first | rfl | (simp; done) | (simp [*]; done)), H', ⟨by have := HJ2.out; have := HK2.out; omega⟩, ⟨by (with_reducible repeat (first | apply Kd.R_alloc | apply Kd.R_drewN | apply Kd.R_drew)); exact HO_8.out⟩, ⟨by repeat (first | (with_reducible first | exact HB.out | apply below_alloc | apply pw_below_drewN | apply below_drew1) | exact HB.out)⟩⟩
           ·rw [if_neg c20] at H
            exact absurd H (by simp)
          ·replace c18 := Bool.eq_false_iff.mpr c18
           subst c18
           have H1 : (if x31_2 < (x8_2.length : Int) then (glyph_directions.l0 k2 l0 x6_2 (x8_2.set (x31_2 : Int).toNat x9_2) x9_2 l0 (l0.length : Int) (wrap64 (x31_2 + 1))) else (none)) = some (r1, r2) := by rw [if_neg (show ¬ (false = true) by decide)] at H; exact H
           clear H
           have H := H1
           clear H1
           by_cases c26 : x31_2 < (x8_2.length : Int)
           ·rw [if_pos c26] at H
            have c26b0 : decide (x31_2 < (x8_2.length : Int)) = true := decide_eq_true c26
            clear c26
            obtain ⟨y140, hy140⟩ : ∃ y_ : List Bool, y_ = (x8_2.set (x31_2 : Int).toNat x9_2) := ⟨_, rfl⟩
            replace H : (glyph_directions.l0 k2 l0 x6_2 y140 x9_2 l0 (l0.length : Int) (wrap64 (x31_2 + 1))) = some (r1, r2) := by first | (rw [hy140]; with_reducible exact H) | (have H2_ := (Option.bind_some _ _).symm.trans H; rw [hy140]; with_reducible exact H2_) | (have H2_ := (Option.bind_some _ _).symm.trans H; with_reducible exact H2_) | with_reducible exact H | (rw [hy140]; exact H) | exact H
            have Ny140 := Aside0.mk hy140
            clear hy140
            have H' := Aside0.mk H
            clear H
            have p136 : 0 ≤ (x31_2 : Int) := of_decide_eq_true (by first | (with_reducible assumption) | assumption)
            have q136 : x31_2 < (l0.length : Int) := of_decide_eq_true (by first | (with_reducible assumption) | assumption)
            obtain ⟨ad136, e136, hx136_0⟩ := Kd.at_int HR0.out x31_2 p136 q136
            cases e136
            replace hx136_0 := (HB.out.cell (World.block_lt_of_cell? w _ hx136_0)).trans hx136_0
            replace p136 := eq_true p136
            replace q136 := eq_true q136
            go_wp2_with (first | (go_at_call 40; (with_reducible refine (glyph_directions_1.calls k2 (rd l0 x31_2) false _ A17.out).mono ?_); rintro e w28 ⟨rfl, hb⟩; have n0_ := Aside0.mk (Kd.R_below (by (with_reducible repeat (first | apply Kd.R_alloc | apply Kd.R_drewN | apply Kd.R_drew)); exact HO_8.out) hb); have n1_ := Aside0.mk (below_step (by repeat (first | (with_reducible first | exact HB.out | apply below_alloc | apply pw_below_drewN | apply below_drew1) | exact HB.out)) hb); clear HO_8; clear HB; have HO_8 := n0_; have HB := n1_; clear n0_ n1_; (try clear hb); (try clear hb2); (try clear hk); (try clear hi); have p27 : 0 ≤ (x31_2 : Int) := of_decide_eq_true (by first | (with_reducible assumption) | assumption); have q27 : (x31_2 : Int) < ((x8_2.length : Int) : Int) := of_decide_eq_true (by first | (with_reducible assumption) | assumption); obtain ⟨go27, co27, eo27, gb27, gl27, cl27, HG27⟩ := Kd.R_form HO_8.out (by omega); (first | cases eo27 | (injection eo27 with ea_ en_ ec_; (first | subst ea_ | (injection ea_ with ea_; subst ea_)); subst ec_; clear en_)); have GB27 := Aside0.mk gb27; have GG27 := Aside0.mk HG27; clear gb27 gl27 HG27; obtain ⟨hx27_0, hf27_0⟩ := Kd.R_celln false HO_8.out (x31_2 : Int) p27 q27; replace p27 := eq_true p27; replace q27 := eq_true q27; obtain ⟨hy29_, hz29_⟩ := Kd.R_celln false HO_8.out (x31_2 : Int) (of_decide_eq_true (by first | (with_reducible assumption) | assumption)) (of_decide_eq_true (by first | (with_reducible assumption) | assumption)); have HP29 := Kd.R_putg HO_8.out (x31_2 : Int) x9_2) | ((with_reducible refine gate_store (t := 4) (p := 45) rfl ?_); refine store_event (t := 4) (p := 45) (v := ?vo_w30) (w1 := (w28.setCell ⟨go27, (x31_2 : Int).toNat, none⟩ (.bool x9_2))) ?hg ?ho ?hn ?hr ?_; (case ho => rfl); (case hg => rfl); (case hn => rfl); (case hr => first | (go_simp; done) | (go_simp; rfl)); intro w30 hw; have hg : w28.grownBy w30 (some go27) := (by rw [hw]; exact HP29.2); have hp_ : Kd.R Kd.bool 4 w30 w.heap.size (fun _ => True) (.slice (some ⟨go27, 0, none⟩) x8_2.length co27) y140 := (by rw [hw, Ny140.out]; exact HP29.1); clear HP29; have n0_ := Aside0.mk (hp_); have n1_ := Aside0.mk ((by rw [hw]; exact below_set (HB.out) GB27.out : Below w.heap.size w w30)); clear HO_8; clear HB; have HO_8 := n0_; have HB := n1_; clear n0_ n1_; clear hg hw hp_))
            go_roundg k2
            case measure => have := HJ2.out; have := HK2.out; omega
            case rel => exact ⟨(y140), (x9_2), (wrap64 (x31_2 + 1)), (by first | rfl | (simp; done) | (simp [*]; done)), (by first | rfl | (simp; done) | (simp [*]; done)), H', ⟨by have := HJ2.out; have := HK2.out; omega⟩, ⟨by (with_reducible repeat (first | apply Kd.R_alloc | apply Kd.R_drewN | apply Kd.R_drew)); exact HO_8.out⟩, ⟨by repeat (first | (with_reducible first | exact HB.out | apply below_alloc | apply pw_below_drewN | apply below_drew1) | exact HB.out)⟩⟩
           ·rw [if_neg c26] at H
            exact absurd H (by simp)
         ·rw [if_neg c16] at H
          exact absurd H (by simp)
        ·rw [if_neg c15] at H
         exact absurd H (by simp)
       ·rw [if_neg c14] at H
        have c14b0 : decide (x31_2 < (l0.length : Int)) = false := decide_eq_false c14
        clear c14
        have H' := Aside0.mk H
        clear H
        go_wp2
        go_loopg [12, 13] k2 (fun kq v12 v13 w' => ∃ (x8_3 : List Bool) (x12_3 : Bool) (x13_3 : Int), v12 = .bool x12_3 ∧ v13 = .int .i64 x13_3 ∧ Aside0 (glyph_directions.l1 kq l0 x6_2 x8_3 x12_3 x13_3 = some (r1, r2)) ∧ Aside0 (kq ≤ k2) ∧ Aside0 (Kd.R Kd.bool 4 w' w.heap.size (fun _ => True) v134 x8_3) ∧ Aside0 (Below w.heap.size w w'))
        case atStart => exact ⟨(x8_2), (x6_2), (wrap64 ((l0.length : Int) - 1)), (by first | rfl | (simp; done) | (simp [*]; done)), (by first | rfl | (simp; done) | (simp [*]; done)), H', ⟨Nat.le_refl _⟩, ⟨by (with_reducible repeat (first | apply Kd.R_alloc | apply Kd.R_drewN | apply Kd.R_drew)); exact HO_8.out⟩, ⟨by repeat (first | (with_reducible first | exact HB.out | apply below_alloc | apply pw_below_drewN | apply below_drew1) | exact HB.out)⟩⟩
        case round =>
         clear H'
         try clear c1
         try clear p1
         try clear q1
         try clear hx1
         try clear c2
         try clear p2
         try clear q2
         try clear hx2
         try clear hf2
         try clear c3
         try clear c4
         try clear c5
         try clear c5b0
         try clear c6
         try clear c6b0
         try clear p6
         try clear c7
         try clear c7b0
         try clear c10
         try clear c10b0
         try clear c10b1
         try clear c11
         try clear c11b0
         try clear c11b1
         try clear p13
         try clear q13
         try clear hx13
         try clear c14
         try clear c14b0
         try clear c15
         try clear c15b0
         try clear c16
         try clear c16b0
         try clear c18
         try clear c20
         try clear c20b0
         try clear p21
         try clear q21
         try clear hx21
         try clear hf21
         try clear c26
         try clear c26b0
         try clear p27
         try clear q27
         try clear hx27
         try clear hf27
         try clear hx131_0
         try clear hx136_0
         try clear hx21_0
         try clear hx27_0
         try clear p1
         try clear p13
         try clear p131
         try clear p136
         try clear p2
         try clear p21
         try clear p27
         try clear q1
         try clear q13
         try clear q131
         try clear q136
         try clear q21
         try clear q27
         obtain ⟨x8_3, x12_3, x13_3, rfl, rfl, HA, HK3, HO_8, HB⟩ := hrel
         cases gk with
         | zero => exact absurd HA.out (by simp [glyph_directions.l1])
         | succ k3 =>
          have H := HA.out
          clear HA
          simp only [glyph_directions.l1] at H
          by_cases c31 : x13_3 ≥ 0
          ·rw [if_pos c31] at H
           have c31b0 : decide (0 ≤ x13_3) = true := decide_eq_true c31
           clear c31
           by_cases c32 : 0 ≤ x13_3
           ·rw [if_pos c32] at H
            have c32b0 : decide (0 ≤ x13_3) = true := decide_eq_true c32
            clear c32
            by_cases c33 : x13_3 < (l0.length : Int)
            ·rw [if_pos c33] at H
             have c33b0 : decide (x13_3 < (l0.length : Int)) = true := decide_eq_true c33
             clear c33
             replace H := Option.bind_eq_some_iff.mp H
             obtain ⟨t142, A340, H⟩ := H
             replace H : (if t142 = true then ((glyph_directions_2.f k3 (rd l0 x13_3)).bind fun t144 => (glyph_directions.l1 k3 l0 x6_2 x8_3 t144 (wrap64 (x13_3 - 1)))) else (if x13_3 < (x8_3.length : Int) then (if (x12_3 != (rdOf false x8_3 x13_3)) = true then (glyph_directions.l1 k3 l0 x6_2 (x8_3.set (x13_3 : Int).toNat x6_2) x12_3 (wrap64 (x13_3 - 1))) else (glyph_directions.l1 k3 l0 x6_2 x8_3 x12_3 (wrap64 (x13_3 - 1)))) else (none))) = some (r1, r2) := H
             have A34 := Aside0.mk A340
             clear A340
             by_cases c35 : t142 = true
             ·subst c35
              have H1 : ((glyph_directions_2.f k3 (rd l0 x13_3)).bind fun t144 => (glyph_directions.l1 k3 l0 x6_2 x8_3 t144 (wrap64 (x13_3 - 1)))) = some (r1, r2) := by rw [if_pos rfl] at H; exact H
              clear H
              have H := H1
              clear H1
              replace H := Option.bind_eq_some_iff.mp H
              obtain ⟨t144, A360, H⟩ := H
              replace H : (glyph_directions.l1 k3 l0 x6_2 x8_3 t144 (wrap64 (x13_3 - 1))) = some (r1, r2) := H
              have A36 := Aside0.mk A360
              clear A360
              have H' := Aside0.mk H
              clear H
              have p141 : 0 ≤ (x13_3 : Int) := of_decide_eq_true (by first | (with_reducible assumption) | assumption)
              have q141 : x13_3 < (l0.length : Int) := of_decide_eq_true (by first | (with_reducible assumption) | assumption)
              obtain ⟨ad141, e141, hx141_0⟩ := Kd.at_int HR0.out x13_3 p141 q141
              cases e141
              replace hx141_0 := (HB.out.cell (World.block_lt_of_cell? w _ hx141_0)).trans hx141_0
              replace p141 := eq_true p141
              replace q141 := eq_true q141
              go_wp2_with (first | (go_at_call 40; (with_reducible refine (glyph_directions_1.calls k3 (rd l0 x13_3) true _ A34.out).mono ?_); rintro e w37 ⟨rfl, hb⟩; have n0_ := Aside0.mk (Kd.R_below (by (with_reducible repeat (first | apply Kd.R_alloc | apply Kd.R_drewN | apply Kd.R_drew)); exact HO_8.out) hb); have n1_ := Aside0.mk (below_step (by repeat (first | (with_reducible first | exact HB.out | apply below_alloc | apply pw_below_drewN | apply below_drew1) | exact HB.out)) hb); clear HO_8; clear HB; have HO_8 := n0_; have HB := n1_; clear n0_ n1_; (try clear hb); (try clear hb2); (try clear hk); (try clear hi); have p143 : 0 ≤ (x13_3 : Int) := of_decide_eq_true (by first | (with_reducible assumption) | assumption); have q143 : x13_3 < (l0.length : Int) := of_decide_eq_true (by first | (with_reducible assumption) | assumption); obtain ⟨ad143, e143, hx143_0⟩ := Kd.at_int HR0.out x13_3 p143 q143; obtain rfl : ad141 = ad143 := (by injection e143); replace hx143_0 := (HB.out.cell (World.block_lt_of_cell? w _ hx143_0)).trans hx143_0; replace p143 := eq_true p143; replace q143 := eq_true q143) | (go_at_call 41; (with_reducible refine (glyph_directions_2.calls k3 (rd l0 x13_3) t144 _ A36.out).mono ?_); rintro e w38 ⟨rfl, hb⟩; have n0_ := Aside0.mk (Kd.R_below (by (with_reducible repeat (first | apply Kd.R_alloc | apply Kd.R_drewN | apply Kd.R_drew)); exact HO_8.out) hb); have n1_ := Aside0.mk (below_step (by repeat (first | (with_reducible first | exact HB.out | apply below_alloc | apply pw_below_drewN | apply below_drew1) | exact HB.out)) hb); clear HO_8; clear HB; have HO_8 := n0_; have HB := n1_; clear n0_ n1_; (try clear hb); (try clear hb2); (try clear hk); (try clear hi)))
              go_roundg k3
              case measure => have := HJ2.out; have := HK2.out; have := HK3.out; omega
              case rel => exact ⟨(x8_3), (t144), (wrap64 (x13_3 - 1)), (by first | rfl | (simp; done) | (simp [*]; done)), (by first | rfl | (simp; done) | (simp [*]; done)), H', ⟨by have := HJ2.out; have := HK2.out; have := HK3.out; omega⟩, ⟨by (with_reducible repeat (first | apply Kd.R_alloc | apply Kd.R_drewN | apply Kd.R_drew)); exact HO_8.out⟩, ⟨by repeat (first | (with_reducible first | exact HB.out | apply below_alloc | apply pw_below_drewN | apply below_drew1) | exact HB.out)⟩⟩
             ·replace c35 := Bool.eq_false_iff.mpr c35
              subst c35
              have H1 : (if x13_3 < (x8_3.length : Int) then (if (x12_3 != (rdOf false x8_3 x13_3)) = true then (glyph_directions.l1 k3 l0 x6_2 (x8_3.set (x13_3 : Int).toNat x6_2) x12_3 (wrap64 (x13_3 - 1))) else (glyph_directions.l1 k3 l0 x6_2 x8_3 x12_3 (wrap64 (x13_3 - 1)))) else (none)) = some (r1, r2) := by rw [if_neg (show ¬ (false = true) by decide)] at H; exact H
              clear H
              have H := H1
              clear H1
              by_cases c39 : x13_3 < (x8_3.length : Int)
              ·rw [if_pos c39] at H
               have c39b0 : decide (x13_3 < (x8_3.length : Int)) = true := decide_eq_true c39
               clear c39
               by_cases c40 : (x12_3 != (rdOf false x8_3 x13_3)) = true
               ·rw [if_pos c40] at H
                have c40b0 : (x12_3 != (rdOf false x8_3 x13_3)) = true := c40
                (try (have c40b1 : decide (x12_3 = (rdOf false x8_3 x13_3)) = false := by simpa using c40))
                (try (have c40b2 : (x12_3 == (rdOf false x8_3 x13_3)) = false := by simpa using c40))
                (try (have c40b3 : ¬ (x12_3 = (rdOf false x8_3 x13_3)) := by simpa using c40))
                clear c40
                obtain ⟨y146, hy146⟩ : ∃ y_ : List Bool, y_ = (x8_3.set (x13_3 : Int).toNat x6_2) := ⟨_, rfl⟩
                replace H : (glyph_directions.l1 k3 l0 x6_2 y146 x12_3 (wrap64 (x13_3 - 1))) = some (r1, r2) := by first | (rw [hy146]; with_reducible exact H) | (have H2_ := (Option.bind_some _ _).symm.trans H; rw [hy146]; with_reducible exact H2_) | (have H2_ := (Option.bind_some _ _).symm.trans H; with_reducible exact H2_) | with_reducible exact H | (rw [hy146]; exact H) | exact H
                have Ny146 := Aside0.mk hy146
                clear hy146
                have H' := Aside0.mk H
                clear H
                have p141 : 0 ≤ (x13_3 : Int) := of_decide_eq_true (by first | (with_reducible assumption) | assumption)
                have q141 : x13_3 < (l0.length : Int) := of_decide_eq_true (by first | (with_reducible assumption) | assumption)
                obtain ⟨ad141, e141, hx141_0⟩ := Kd.at_int HR0.out x13_3 p141 q141
                cases e141
                replace hx141_0 := (HB.out.cell (World.block_lt_of_cell? w _ hx141_0)).trans hx141_0
                replace p141 := eq_true p141
                replace q141 := eq_true q141
                go_wp2_with (first | (go_at_call 40; (with_reducible refine (glyph_directions_1.calls k3 (rd l0 x13_3) false _ A34.out).mono ?_); rintro e w42 ⟨rfl, hb⟩; have n0_ := Aside0.mk (Kd.R_below (by (with_reducible repeat (first | apply Kd.R_alloc | apply Kd.R_drewN | apply Kd.R_drew)); exact HO_8.out) hb); have n1_ := Aside0.mk (below_step (by repeat (first | (with_reducible first | exact HB.out | apply below_alloc | apply pw_below_drewN | apply below_drew1) | exact HB.out)) hb); clear HO_8; clear HB; have HO_8 := n0_; have HB := n1_; clear n0_ n1_; (try clear hb); (try clear hb2); (try clear hk); (try clear hi); obtain ⟨Ao43, co43, eo43⟩ := Kd.R_slice HO_8.out; subst eo43; have p145 : 0 ≤ (x13_3 : Int) := of_decide_eq_true (by first | (with_reducible assumption) | assumption); have q145 : x13_3 < (x8_3.length : Int) := of_decide_eq_true (by first | (with_reducible assumption) | assumption); obtain ⟨ad145, e145, hx145_0⟩ := Kd.at_bool (Kd.R_reads' HO_8.out).2.2 x13_3 p145 q145; cases e145; replace p145 := eq_true p145; replace q145 := eq_true q145; have p41 : 0 ≤ (x13_3 : Int) := of_decide_eq_true (by first | (with_reducible assumption) | assumption); have q41 : (x13_3 : Int) < ((x8_3.length : Int) : Int) := of_decide_eq_true (by first | (with_reducible assumption) | assumption); obtain ⟨go41, co41, eo41, gb41, gl41, cl41, HG41⟩ := Kd.R_form HO_8.out (by omega); (first | cases eo41 | (injection eo41 with ea_ en_ ec_; (first | subst ea_ | (injection ea_ with ea_; subst ea_)); subst ec_; clear en_)); have GB41 := Aside0.mk gb41; have GG41 := Aside0.mk HG41; clear gb41 gl41 HG41; (first | simp only [add_plain] at hx145_0 | skip); obtain ⟨hx41_0, hf41_0⟩ := Kd.R_celln false HO_8.out (x13_3 : Int) p41 q41; replace p41 := eq_true p41; replace q41 := eq_true q41; obtain ⟨hy44_, hz44_⟩ := Kd.R_celln false HO_8.out (x13_3 : Int) (of_decide_eq_true (by first | (with_reducible assumption) | assumption)) (of_decide_eq_true (by first | (with_reducible assumption) | assumption)); have HP44 := Kd.R_putg HO_8.out (x13_3 : Int) x6_2) | ((with_reducible refine gate_store (t := 4) (p := 76) rfl ?_); refine store_event (t := 4) (p := 76) (v := ?vo_w45) (w1 := (w42.setCell ⟨go41, (x13_3 : Int).toNat, none⟩ (.bool x6_2))) ?hg ?ho ?hn ?hr ?_; (case ho => rfl); (case hg => rfl); (case hn => rfl); (case hr => first | (go_simp; done) | (go_simp; rfl)); intro w45 hw; have hg : w42.grownBy w45 (some go41) := (by rw [hw]; exact HP44.2); have hp_ : Kd.R Kd.bool 4 w45 w.heap.size (fun _ => True) (.slice (some ⟨go41, 0, none⟩) x8_3.length co43) y146 := (by rw [hw, Ny146.out]; exact HP44.1); clear HP44; have n0_ := Aside0.mk (hp_); have n1_ := Aside0.mk ((by rw [hw]; exact below_set (HB.out) GB41.out : Below w.heap.size w w45)); clear HO_8; clear HB; have HO_8 := n0_; have HB := n1_; clear n0_ n1_; clear hg hw hp_))
                go_roundg k3
                case measure => have := HJ2.out; have := HK2.out; have := HK3.out; omega
                case rel => exact ⟨(y146), (x12_3), (wrap64 (x13_3 - 1)), (by first | rfl | (simp; done) | (simp [*]; done)), (by first | rfl | (simp; done) | (simp [*]; done)), H', ⟨by have := HJ2.out; have := HK2.out; have := HK3.out; omega⟩, ⟨by (with_reducible repeat (first | apply Kd.R_alloc | apply Kd.R_drewN | apply Kd.R_drew)); exact HO_8.out⟩, ⟨by repeat (first | (with_reducible first | exact HB.out | apply below_alloc | apply pw_below_drewN | apply below_drew1) | exact HB.out)⟩⟩
               ·rw [if_neg c40] at H
                have c40b0 : (x12_3 != (rdOf false x8_3 x13_3)) = false := by simpa using c40
                (try (have c40b1 : decide (x12_3 = (rdOf false x8_3 x13_3)) = true := by simpa using c40))
                (try (have c40b2 : (x12_3 == (rdOf false x8_3 x13_3)) = true := by simpa using c40))
                clear c40
                have H' := Aside0.mk H
                clear H
                have p141 : 0 ≤ (x13_3 : Int) := of_decide_eq_true (by first | (with_reducible assumption) | assumption)
                have q141 : x13_3 < (l0.length : Int) := of_decide_eq_true (by first | (with_reducible assumption) | assumption)
                obtain ⟨ad141, e141, hx141_0⟩ := Kd.at_int HR0.out x13_3 p141 q141
                cases e141
                replace hx141_0 := (HB.out.cell (World.block_lt_of_cell? w _ hx141_0)).trans hx141_0
                replace p141 := eq_true p141
                replace q141 := eq_true q141
                go_wp2_with (first | (go_at_call 40; (with_reducible refine (glyph_directions_1.calls k3 (rd l0 x13_3) false _ A34.out).mono ?_); rintro e w46 ⟨rfl, hb⟩; have n0_ := Aside0.mk (Kd.R_below (by (with_reducible repeat (first | apply Kd.R_alloc | apply Kd.R_drewN | apply Kd.R_drew)); exact HO_8.out) hb); have n1_ := Aside0.mk (below_step (by repeat (first | (with_reducible first | exact HB.out | apply below_alloc | apply pw_below_drewN | apply below_drew1) | exact HB.out)) hb); clear HO_8; clear HB; have HO_8 := n0_; have HB := n1_; clear n0_ n1_; (try clear hb); (try clear hb2); (try clear hk); (try clear hi); obtain ⟨Ao47, co47, eo47⟩ := Kd.R_slice HO_8.out; subst eo47; have p145 : 0 ≤ (x13_3 : Int) := of_decide_eq_true (by first | (with_reducible assumption) | assumption); have q145 : x13_3 < (x8_3.length : Int) := of_decide_eq_true (by first | (with_reducible assumption) | assumption); obtain ⟨ad145, e145, hx145_0⟩ := Kd.at_bool (Kd.R_reads' HO_8.out).2.2 x13_3 p145 q145; cases e145; replace p145 := eq_true p145; replace q145 := eq_true q145))
                go_roundg k3
                case measure => have := HJ2.out; have := HK2.out; have := HK3.out; omega
                case rel => exact ⟨(x8_3), (x12_3), (wrap64 (x13_3 - 1)), (by first | rfl | (simp; done) | (simp [*]; done)), (by first | rfl | (simp; done) | (simp [*]; done)), H', ⟨by have := HJ2.out; have := HK2.out; have := HK3.out; omega⟩, ⟨by (with_reducible repeat (first | apply Kd.R_alloc | apply Kd.R_drewN | apply Kd.R_drew)); exact HO_8.out⟩, ⟨by repeat (first | (with_reducible first | exact HB.out | apply below_alloc | apply pw_below_drewN | apply below_drew1) | exact HB.out)⟩⟩
              ·rw [if_neg c39] at H
               exact absurd H (by simp)
            ·rw [if_neg c33] at H
             exact absurd H (by simp)
           ·rw [if_neg c32] at H
            exact absurd H (by simp)
          ·rw [if_neg c31] at H
           have c31b0 : decide (0 ≤ x13_3) = false := decide_eq_false c31
           clear c31
           simp only [Option.some.injEq, Prod.mk.injEq] at H
           obtain ⟨rfl, rfl⟩ := H
           go_wp2
           go_ret2
           exact ⟨_, by first | rfl | (simp [errW_none, errW_some] <;> rfl) | (simp [*, errW_none, errW_some] <;> rfl), by (with_reducible repeat (first | apply Kd.R_alloc | apply Kd.R_drewN | apply Kd.R_drew)); exact HO_8.out, by repeat (first | (with_reducible first | exact HB.out | apply below_alloc | apply pw_below_drewN | apply below_drew1) | exact HB.out)⟩
    ·rw [if_neg c11] at H
     exact absurd H (by simp)
   ·rw [if_neg c10] at H
    exact absurd H (by simp)

/-! ### slices_Clone_int_int: function 43, by hand -/
def slices_Clone_int_int.f (l0 : List Int) : Option (List Int) := if l0.length < 17592186044416 then some l0 else none
theorem slices_Clone_int_int.calls (A0 : Option Addr) (c0 : Nat) (l0 : List Int) (r : List Int) (w : World) (hr0 : Kd.C (Kd.int .i64) w A0 l0.length l0) (hc0 : l0.length ≤ c0) (h : slices_Clone_int_int.f l0 = some r) :
    Calls Try.prog 43 #[.slice A0 l0.length c0] w fun e w' => ∃ v0_ : Value, e = .returned (v0_) ∧ Kd.R (Kd.int .i64) 3 w' w.heap.size (fun _ => True) v0_ r ∧ Below w.heap.size w w' := by
  unfold slices_Clone_int_int.f at h
  by_cases c : l0.length < 17592186044416
  rotate_left
  · rw [if_neg c] at h
    cases h
  rw [if_pos c] at h
  cases h
  by_cases z : l0 = []
  · subst z
    cases A0 with
    | none =>
      refine (Try.slices_Clone_int_nil 0 c0 w).mono ?_
      rintro e w2 ⟨rfl, rfl⟩
      exact ⟨_, rfl, Kd.R_nil _ _ _ _ _, Below.refl _ _⟩
    | some ad =>
      refine (Try.slices_Clone_int_zero ad c0 w).mono ?_
      rintro e w2 ⟨v', rfl, ho, _, hb⟩
      exact ⟨v', rfl, Kd.R_of_own ho (fun _ _ => trivial), hb⟩
  · have hp : 0 < l0.length := List.length_pos_iff.mpr z
    obtain ⟨ad, rfl, hx0⟩ := Kd.at_int hr0 0 (by decide) (by omega)
    obtain ⟨b, o, s⟩ := ad
    have hs : s = none := by
      cases s with
      | none => rfl
      | some x => (rw [show Addr.add ⟨b, o, some x⟩ (0 : Int).toNat = ⟨b, o, some x⟩ from (by simp [Addr.add])] at hx0; unfold World.cell? at hx0; split at hx0 <;> simp at hx0)
    subst hs
    refine (Try.slices_Clone_int b o l0.length c0 l0 w (Nat.le_refl _) (by omega) ?_).mono ?_
    · intro j hj
      obtain ⟨ad', e, hx⟩ := Kd.at_int hr0 j (by omega) (by omega)
      cases e
      rw [Int.toNat_natCast, Addr.add_lit] at hx
      exact hx
    · rintro e w2 ⟨v', rfl, ho, _, hb⟩
      rw [List.take_length] at ho
      exact ⟨v', rfl, Kd.R_of_own ho (fun _ _ => trivial), hb⟩

end Go.Proofs.Ytjhmpobnoccobaa.P
