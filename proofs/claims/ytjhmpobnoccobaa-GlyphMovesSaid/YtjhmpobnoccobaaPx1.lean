-- Written by wip/tools/xprint.py (this session's program, over the kit's print.py) for this seat.
import Derived.Test.YtjhmpobnoccobaaPx0
namespace Go.Proofs.Ytjhmpobnoccobaa.P
open Go.RowKit Go.Proofs.YtjhmpobnoccobaaW.PrintWords Go.Proofs.YtjhmpobnoccobaaW.PrintLast Go.Proofs.YtjhmpobnoccobaaW.PrintMore
attribute [local go_sem] max2_int min2_int max_two min_two max_three min_three max_four min_four   -- for this text's walks alone
set_option linter.unusedVariables false
set_option linter.unusedSimpArgs false

/-! ### glyph_blocks: function 29, by hand -/
def glyph_blocks.f : Option Unit := some ()
set_option maxHeartbeats 4000000 in
set_option maxRecDepth 100000 in
theorem glyph_blocks.calls (w : World) {r : Unit} (h : glyph_blocks.f = some r) :
    Calls Try.prog 29 #[] w fun e w' => e = .returned (.agg #[.int .i32 32, .int .i32 32, .int .i64 0, .int .i32 39, .int .i32 41, .int .i64 0, .int .i32 45, .int .i32 46, .int .i64 0, .int .i32 48, .int .i32 57, .int .i64 0, .int .i32 65, .int .i32 90, .int .i64 1, .int .i32 97, .int .i32 122, .int .i64 1, .int .i32 192, .int .i32 214, .int .i64 1, .int .i32 216, .int .i32 246, .int .i64 1, .int .i32 248, .int .i32 591, .int .i64 1, .int .i32 880, .int .i32 1023, .int .i64 2, .int .i32 1024, .int .i32 1279, .int .i64 3, .int .i32 1488, .int .i32 1514, .int .i64 4, .int .i32 19968, .int .i32 40959, .int .i64 5]) ∧ Below w.heap.size w w' := by
  go_enter Try.func29, Try.ntmps29
  go_wp2_with (refine wpList_store_row rfl 45 (.tmp 0) (.tmp 14) rfl w.heap.size #[.int .i32 32, .int .i32 32, .int .i64 0, .int .i32 39, .int .i32 41, .int .i64 0, .int .i32 45, .int .i32 46, .int .i64 0, .int .i32 48, .int .i32 57, .int .i64 0, .int .i32 65, .int .i32 90, .int .i64 1, .int .i32 97, .int .i32 122, .int .i64 1, .int .i32 192, .int .i32 214, .int .i64 1, .int .i32 216, .int .i32 246, .int .i64 1, .int .i32 248, .int .i32 591, .int .i64 1, .int .i32 880, .int .i32 1023, .int .i64 2, .int .i32 1024, .int .i32 1279, .int .i64 3, .int .i32 1488, .int .i32 1514, .int .i64 4, .int .i32 19968, .int .i32 40959, .int .i64 5] rfl rfl 45 _ (heap_alloc_new _ _) (by kernel_rfl) (by kernel_rfl) (by kernel_rfl) ?_)
  exact bodyPost_ret (results_cell_row rfl _ _ w.heap.size 45 #[.int .i32 32, .int .i32 32, .int .i64 0, .int .i32 39, .int .i32 41, .int .i64 0, .int .i32 45, .int .i32 46, .int .i64 0, .int .i32 48, .int .i32 57, .int .i64 0, .int .i32 65, .int .i32 90, .int .i64 1, .int .i32 97, .int .i32 122, .int .i64 1, .int .i32 192, .int .i32 214, .int .i64 1, .int .i32 216, .int .i32 246, .int .i64 1, .int .i32 248, .int .i32 591, .int .i64 1, .int .i32 880, .int .i32 1023, .int .i64 2, .int .i32 1024, .int .i32 1279, .int .i64 3, .int .i32 1488, .int .i32 1514, .int .i64 4, .int .i32 19968, .int .i32 40959, .int .i64 5] (0, 0) _ rfl (setRow_heap _ _ _ _ _ _ (heap_alloc_new _ _)) Try.underlying45 rfl (by kernel_rfl)) rfl ⟨rfl, setRow_below ((Below.refl _ _).alloc (Nat.le_refl _) _) (Nat.le_refl _) _⟩

/-! ### glyph_Script: function 18 -/
def glyph_Script.l0 : Nat → Int → Int → Option (Int)
 | 0, _, _ => none
 | k + 1, x0, x6 => if x6 < 13 then (if 0 ≤ x6 then (if x0 ≥ (wrap64 (rd [32, 39, 45, 48, 65, 97, 192, 216, 248, 880, 1024, 1488, 19968] x6)) then (if x0 ≤ (wrap64 (rd [32, 41, 46, 57, 90, 122, 214, 246, 591, 1023, 1279, 1514, 40959] x6)) then (some (rd [0, 0, 0, 0, 1, 1, 1, 1, 1, 2, 3, 4, 5] x6)) else (glyph_Script.l0 k x0 (wrap64 (x6 + 1)))) else (glyph_Script.l0 k x0 (wrap64 (x6 + 1)))) else (none)) else (some (-1))
def glyph_Script.f (k : Nat) (a0 : Int) : Option (Int) := (glyph_blocks.f).bind fun _ => (glyph_Script.l0 k a0 0)
theorem glyph_Script.mono_l : ∀ k, (∀ y0 y1, LeO (glyph_Script.l0 k y0 y1) (glyph_Script.l0 (k + 1) y0 y1))
 | 0 => fun _ _ r h => by simp [glyph_Script.l0] at h
 | k + 1 => by
  have ih0 := glyph_Script.mono_l k
  ·intro y0 y1
   unfold glyph_Script.l0
   repeat' first
   | (with_reducible exact ih0 _ _)
   | (with_reducible exact LeO.refl _)
   | (with_reducible exact LeO.none _)
   | (with_reducible refine LeO.ite ?_ ?_)
   | (with_reducible refine LeO.bind ?_ (fun _ => ?_))
   | exact ih0 _ _
   | exact LeO.none _
   | refine LeO.ite ?_ ?_
   | refine LeO.bind ?_ (fun _ => ?_)
theorem glyph_Script.mono : ∀ a0 k, LeO (glyph_Script.f k a0) (glyph_Script.f (k + 1) a0) := by
 intro a0 k
 have ih0 := glyph_Script.mono_l k
 unfold glyph_Script.f
 repeat' first
   | (with_reducible exact ih0 _ _)
   | (with_reducible exact LeO.refl _)
   | (with_reducible exact LeO.none _)
   | (with_reducible refine LeO.ite ?_ ?_)
   | (with_reducible refine LeO.bind ?_ (fun _ => ?_))
   | exact ih0 _ _
   | exact LeO.none _
   | refine LeO.ite ?_ ?_
   | refine LeO.bind ?_ (fun _ => ?_)
set_option maxHeartbeats 8000000 in
set_option maxRecDepth 100000 in
theorem glyph_Script.calls (k : Nat) (a0 : Int) (r : Int) (w : World) (h : glyph_Script.f k a0 = some r) :
  Calls Try.prog 18 #[.int .i64 a0] w fun e w' => e = .returned (.int .i64 r) ∧ Below w.heap.size w w' := by
 have hu44 := Try.underlying44
 have HB := Aside0.mk (Below.refl w.heap.size w)
 have H : ((glyph_blocks.f).bind fun _ => (glyph_Script.l0 k a0 0)) = some r := h
 clear h
 replace H := Option.bind_eq_some_iff.mp H
 obtain ⟨_, A20, H⟩ := H
 replace H : (glyph_Script.l0 k a0 0) = some r := H
 have A2 := Aside0.mk A20
 clear A20
 have H' := Aside0.mk H
 clear H
 go_enter Try.func18, Try.ntmps18
 go_wp2_with (first | ((with_reducible refine gate_callee (f := 29) rfl ?_); refine goesL_ (some 5) rfl rfl Try.func29 (by kernel_rfl) rfl #[] rfl (by (try simp only [List.map_toArray, List.map_cons, List.map_nil]); first | done | rfl | (simp only [List.length_drop, List.length_take]; rfl)) ?_; (with_reducible refine (glyph_blocks.calls   _ A2.out).mono ?_); rintro e w3 ⟨rfl, hb⟩; refine ⟨_, rfl, ?_⟩; have n0_ := Aside0.mk (below_step (by repeat (first | (with_reducible first | exact HB.out | apply below_alloc | apply pw_below_drewN | apply below_drew1) | exact HB.out)) hb); clear HB; have HB := n0_; clear n0_; (try clear hb); (try clear hb2); (try clear hk); (try clear hi)))
 go_loopg [6] k (fun kq v6 w' => ∃ (x6_1 : Int), v6 = .int .i64 x6_1 ∧ Aside0 (glyph_Script.l0 kq a0 x6_1 = some r) ∧ Aside0 (kq ≤ k) ∧ Aside0 (Below w.heap.size w w'))
 case atStart => exact ⟨(0), (by first | rfl | (simp; done) | (simp [*]; done)), H', ⟨Nat.le_refl _⟩, ⟨by repeat (first | (with_reducible first | exact HB.out | apply below_alloc | apply pw_below_drewN | apply below_drew1) | exact HB.out)⟩⟩
 case round =>
  clear H'
  try clear c1
  try clear c2
  try clear p2
  obtain ⟨x6_1, rfl, HA, HK1, HB⟩ := hrel
  cases gk with
  | zero => exact absurd HA.out (by simp [glyph_Script.l0])
  | succ k1 =>
   have H := HA.out
   clear HA
   simp only [glyph_Script.l0] at H
   by_cases c4 : x6_1 < 13
   ·rw [if_pos c4] at H
    have c4b0 : decide (x6_1 < 13) = true := decide_eq_true c4
    clear c4
    by_cases c5 : 0 ≤ x6_1
    ·rw [if_pos c5] at H
     have c5b0 : decide (0 ≤ x6_1) = true := decide_eq_true c5
     clear c5
     by_cases c7 : a0 ≥ (wrap64 (rd [32, 39, 45, 48, 65, 97, 192, 216, 248, 880, 1024, 1488, 19968] x6_1))
     ·rw [if_pos c7] at H
      have c7b0 : decide ((wrap64 (rd [32, 39, 45, 48, 65, 97, 192, 216, 248, 880, 1024, 1488, 19968] x6_1)) ≤ a0) = true := decide_eq_true c7
      clear c7
      by_cases c8 : a0 ≤ (wrap64 (rd [32, 41, 46, 57, 90, 122, 214, 246, 591, 1023, 1279, 1514, 40959] x6_1))
      ·rw [if_pos c8] at H
       have c8b0 : decide (a0 ≤ (wrap64 (rd [32, 41, 46, 57, 90, 122, 214, 246, 591, 1023, 1279, 1514, 40959] x6_1))) = true := decide_eq_true c8
       clear c8
       obtain rfl := Option.some.inj H
       have p6 : 0 ≤ (x6_1 : Int) := of_decide_eq_true (by first | (with_reducible assumption) | assumption)
       have q6 : x6_1 < (13 : Int) := of_decide_eq_true (by first | (with_reducible assumption) | assumption)
       have hx6 : ∀ W_ : World, (Instr.index 45 (.agg #[.int .i32 32, .int .i32 32, .int .i64 0, .int .i32 39, .int .i32 41, .int .i64 0, .int .i32 45, .int .i32 46, .int .i64 0, .int .i32 48, .int .i32 57, .int .i64 0, .int .i32 65, .int .i32 90, .int .i64 1, .int .i32 97, .int .i32 122, .int .i64 1, .int .i32 192, .int .i32 214, .int .i64 1, .int .i32 216, .int .i32 246, .int .i64 1, .int .i32 248, .int .i32 591, .int .i64 1, .int .i32 880, .int .i32 1023, .int .i64 2, .int .i32 1024, .int .i32 1279, .int .i64 3, .int .i32 1488, .int .i32 1514, .int .i64 4, .int .i32 19968, .int .i32 40959, .int .i64 5]) (.int .i64 x6_1)).run Try.prog W_ = .ok (.agg #[.int .i32 (rd [32, 39, 45, 48, 65, 97, 192, 216, 248, 880, 1024, 1488, 19968] x6_1), .int .i32 (rd [32, 41, 46, 57, 90, 122, 214, 246, 591, 1023, 1279, 1514, 40959] x6_1), .int .i64 (rd [0, 0, 0, 0, 1, 1, 1, 1, 1, 2, 3, 4, 5] x6_1)]) W_ := (by intro W_; generalize x6_1 = jj_ at p6 q6 ⊢; rcases (show jj_ = 0 ∨ jj_ = 1 ∨ jj_ = 2 ∨ jj_ = 3 ∨ jj_ = 4 ∨ jj_ = 5 ∨ jj_ = 6 ∨ jj_ = 7 ∨ jj_ = 8 ∨ jj_ = 9 ∨ jj_ = 10 ∨ jj_ = 11 ∨ jj_ = 12 by omega) with hj_ | hj_ | hj_ | hj_ | hj_ | hj_ | hj_ | hj_ | hj_ | hj_ | hj_ | hj_ | hj_ <;> subst hj_ <;> (show _ = _; kernel_rfl))
       replace p6 := eq_true p6
       replace q6 := eq_true q6
       go_wp2_with (first | ((with_reducible refine gate_dst (N := 4) rfl ?_); refine box_event ?hg (N := 4) ?hd (cs := #[.int .i32 0, .int .i32 0, .int .i64 0]) (t := 44) ?hr ?_; (case hd => rfl); (case hg => rfl); (case hr => first | (go_simp; done) | (go_simp; rfl)); intro gb101 hg w9 hbox hb; have n0_ := Aside0.mk (below_step (by repeat (first | (with_reducible first | exact HB.out | apply below_alloc | apply pw_below_drewN | apply below_drew1) | exact HB.out)) hb); have n1_ := Aside0.mk (hbox); have n2_ := Aside0.mk ((by rw [hg]; exact (below_size (by repeat (first | (with_reducible first | exact HB.out | apply below_alloc | apply pw_below_drewN | apply below_drew1) | exact HB.out))) : w.heap.size ≤ gb101)); have n3_ := Aside0.mk ((by rw [hg]; exact (below_size (by repeat (first | (with_reducible first | exact HB.out | apply below_alloc | apply pw_below_drewN | apply below_drew1) | exact HB.out))) : w.heap.size ≤ gb101)); clear HB; have HB := n0_; have BK101 := n1_; have GW101 := n2_; have GE101 := n3_; clear n0_ n1_ n2_ n3_; clear hb hbox hg; have hcz10_0 : w9.cell? ⟨gb101, 0, none⟩ = some (.int .i32 0) := (blk_cell BK101.out 0).trans rfl; have hcz10_1 : w9.cell? ⟨gb101, 1, none⟩ = some (.int .i32 0) := (blk_cell BK101.out 1).trans rfl; have hcz10_2 : w9.cell? ⟨gb101, 2, none⟩ = some (.int .i64 0) := (blk_cell BK101.out 2).trans rfl; have hfz10_0 := blk_frozen BK101.out 0; have hfz10_1 := blk_frozen BK101.out 1; have hfz10_2 := blk_frozen BK101.out 2))
       go_ret
       exact ⟨by first | rfl | (simp [errW_none, errW_some] <;> rfl) | (simp [*, errW_none, errW_some] <;> rfl), by repeat (first | (with_reducible first | exact HB.out | apply below_alloc | apply pw_below_drewN | apply below_drew1 | refine below_set ?_ GE101.out) | exact HB.out)⟩
      ·rw [if_neg c8] at H
       have c8b0 : decide (a0 ≤ (wrap64 (rd [32, 41, 46, 57, 90, 122, 214, 246, 591, 1023, 1279, 1514, 40959] x6_1))) = false := decide_eq_false c8
       clear c8
       have H' := Aside0.mk H
       clear H
       have p6 : 0 ≤ (x6_1 : Int) := of_decide_eq_true (by first | (with_reducible assumption) | assumption)
       have q6 : x6_1 < (13 : Int) := of_decide_eq_true (by first | (with_reducible assumption) | assumption)
       have hx6 : ∀ W_ : World, (Instr.index 45 (.agg #[.int .i32 32, .int .i32 32, .int .i64 0, .int .i32 39, .int .i32 41, .int .i64 0, .int .i32 45, .int .i32 46, .int .i64 0, .int .i32 48, .int .i32 57, .int .i64 0, .int .i32 65, .int .i32 90, .int .i64 1, .int .i32 97, .int .i32 122, .int .i64 1, .int .i32 192, .int .i32 214, .int .i64 1, .int .i32 216, .int .i32 246, .int .i64 1, .int .i32 248, .int .i32 591, .int .i64 1, .int .i32 880, .int .i32 1023, .int .i64 2, .int .i32 1024, .int .i32 1279, .int .i64 3, .int .i32 1488, .int .i32 1514, .int .i64 4, .int .i32 19968, .int .i32 40959, .int .i64 5]) (.int .i64 x6_1)).run Try.prog W_ = .ok (.agg #[.int .i32 (rd [32, 39, 45, 48, 65, 97, 192, 216, 248, 880, 1024, 1488, 19968] x6_1), .int .i32 (rd [32, 41, 46, 57, 90, 122, 214, 246, 591, 1023, 1279, 1514, 40959] x6_1), .int .i64 (rd [0, 0, 0, 0, 1, 1, 1, 1, 1, 2, 3, 4, 5] x6_1)]) W_ := (by intro W_; generalize x6_1 = jj_ at p6 q6 ⊢; rcases (show jj_ = 0 ∨ jj_ = 1 ∨ jj_ = 2 ∨ jj_ = 3 ∨ jj_ = 4 ∨ jj_ = 5 ∨ jj_ = 6 ∨ jj_ = 7 ∨ jj_ = 8 ∨ jj_ = 9 ∨ jj_ = 10 ∨ jj_ = 11 ∨ jj_ = 12 by omega) with hj_ | hj_ | hj_ | hj_ | hj_ | hj_ | hj_ | hj_ | hj_ | hj_ | hj_ | hj_ | hj_ <;> subst hj_ <;> (show _ = _; kernel_rfl))
       replace p6 := eq_true p6
       replace q6 := eq_true q6
       go_wp2_with (first | ((with_reducible refine gate_dst (N := 4) rfl ?_); refine box_event ?hg (N := 4) ?hd (cs := #[.int .i32 0, .int .i32 0, .int .i64 0]) (t := 44) ?hr ?_; (case hd => rfl); (case hg => rfl); (case hr => first | (go_simp; done) | (go_simp; rfl)); intro gb101 hg w11 hbox hb; have n0_ := Aside0.mk (below_step (by repeat (first | (with_reducible first | exact HB.out | apply below_alloc | apply pw_below_drewN | apply below_drew1) | exact HB.out)) hb); have n1_ := Aside0.mk (hbox); have n2_ := Aside0.mk ((by rw [hg]; exact (below_size (by repeat (first | (with_reducible first | exact HB.out | apply below_alloc | apply pw_below_drewN | apply below_drew1) | exact HB.out))) : w.heap.size ≤ gb101)); have n3_ := Aside0.mk ((by rw [hg]; exact (below_size (by repeat (first | (with_reducible first | exact HB.out | apply below_alloc | apply pw_below_drewN | apply below_drew1) | exact HB.out))) : w.heap.size ≤ gb101)); clear HB; have HB := n0_; have BK101 := n1_; have GW101 := n2_; have GE101 := n3_; clear n0_ n1_ n2_ n3_; clear hb hbox hg; have hcz12_0 : w11.cell? ⟨gb101, 0, none⟩ = some (.int .i32 0) := (blk_cell BK101.out 0).trans rfl; have hcz12_1 : w11.cell? ⟨gb101, 1, none⟩ = some (.int .i32 0) := (blk_cell BK101.out 1).trans rfl; have hcz12_2 : w11.cell? ⟨gb101, 2, none⟩ = some (.int .i64 0) := (blk_cell BK101.out 2).trans rfl; have hfz12_0 := blk_frozen BK101.out 0; have hfz12_1 := blk_frozen BK101.out 1; have hfz12_2 := blk_frozen BK101.out 2))
       go_roundg k1
       case measure => have := HK1.out; omega
       case rel => exact ⟨(wrap64 (x6_1 + 1)), (by first | rfl | (simp; done) | (simp [*]; done)), H', ⟨by have := HK1.out; omega⟩, ⟨by repeat (first | (with_reducible first | exact HB.out | apply below_alloc | apply pw_below_drewN | apply below_drew1 | refine below_set ?_ GE101.out) | exact HB.out)⟩⟩
     ·rw [if_neg c7] at H
      have c7b0 : decide ((wrap64 (rd [32, 39, 45, 48, 65, 97, 192, 216, 248, 880, 1024, 1488, 19968] x6_1)) ≤ a0) = false := decide_eq_false c7
      clear c7
      have H' := Aside0.mk H
      clear H
      have p6 : 0 ≤ (x6_1 : Int) := of_decide_eq_true (by first | (with_reducible assumption) | assumption)
      have q6 : x6_1 < (13 : Int) := of_decide_eq_true (by first | (with_reducible assumption) | assumption)
      have hx6 : ∀ W_ : World, (Instr.index 45 (.agg #[.int .i32 32, .int .i32 32, .int .i64 0, .int .i32 39, .int .i32 41, .int .i64 0, .int .i32 45, .int .i32 46, .int .i64 0, .int .i32 48, .int .i32 57, .int .i64 0, .int .i32 65, .int .i32 90, .int .i64 1, .int .i32 97, .int .i32 122, .int .i64 1, .int .i32 192, .int .i32 214, .int .i64 1, .int .i32 216, .int .i32 246, .int .i64 1, .int .i32 248, .int .i32 591, .int .i64 1, .int .i32 880, .int .i32 1023, .int .i64 2, .int .i32 1024, .int .i32 1279, .int .i64 3, .int .i32 1488, .int .i32 1514, .int .i64 4, .int .i32 19968, .int .i32 40959, .int .i64 5]) (.int .i64 x6_1)).run Try.prog W_ = .ok (.agg #[.int .i32 (rd [32, 39, 45, 48, 65, 97, 192, 216, 248, 880, 1024, 1488, 19968] x6_1), .int .i32 (rd [32, 41, 46, 57, 90, 122, 214, 246, 591, 1023, 1279, 1514, 40959] x6_1), .int .i64 (rd [0, 0, 0, 0, 1, 1, 1, 1, 1, 2, 3, 4, 5] x6_1)]) W_ := (by intro W_; generalize x6_1 = jj_ at p6 q6 ⊢; rcases (show jj_ = 0 ∨ jj_ = 1 ∨ jj_ = 2 ∨ jj_ = 3 ∨ jj_ = 4 ∨ jj_ = 5 ∨ jj_ = 6 ∨ jj_ = 7 ∨ jj_ = 8 ∨ jj_ = 9 ∨ jj_ = 10 ∨ jj_ = 11 ∨ jj_ = 12 by omega) with hj_ | hj_ | hj_ | hj_ | hj_ | hj_ | hj_ | hj_ | hj_ | hj_ | hj_ | hj_ | hj_ <;> subst hj_ <;> (show _ = _; kernel_rfl))
      replace p6 := eq_true p6
      replace q6 := eq_true q6
      go_wp2_with (first | ((with_reducible refine gate_dst (N := 4) rfl ?_); refine box_event ?hg (N := 4) ?hd (cs := #[.int .i32 0, .int .i32 0, .int .i64 0]) (t := 44) ?hr ?_; (case hd => rfl); (case hg => rfl); (case hr => first | (go_simp; done) | (go_simp; rfl)); intro gb101 hg w13 hbox hb; have n0_ := Aside0.mk (below_step (by repeat (first | (with_reducible first | exact HB.out | apply below_alloc | apply pw_below_drewN | apply below_drew1) | exact HB.out)) hb); have n1_ := Aside0.mk (hbox); have n2_ := Aside0.mk ((by rw [hg]; exact (below_size (by repeat (first | (with_reducible first | exact HB.out | apply below_alloc | apply pw_below_drewN | apply below_drew1) | exact HB.out))) : w.heap.size ≤ gb101)); have n3_ := Aside0.mk ((by rw [hg]; exact (below_size (by repeat (first | (with_reducible first | exact HB.out | apply below_alloc | apply pw_below_drewN | apply below_drew1) | exact HB.out))) : w.heap.size ≤ gb101)); clear HB; have HB := n0_; have BK101 := n1_; have GW101 := n2_; have GE101 := n3_; clear n0_ n1_ n2_ n3_; clear hb hbox hg; have hcz14_0 : w13.cell? ⟨gb101, 0, none⟩ = some (.int .i32 0) := (blk_cell BK101.out 0).trans rfl; have hcz14_1 : w13.cell? ⟨gb101, 1, none⟩ = some (.int .i32 0) := (blk_cell BK101.out 1).trans rfl; have hcz14_2 : w13.cell? ⟨gb101, 2, none⟩ = some (.int .i64 0) := (blk_cell BK101.out 2).trans rfl; have hfz14_0 := blk_frozen BK101.out 0; have hfz14_1 := blk_frozen BK101.out 1; have hfz14_2 := blk_frozen BK101.out 2))
      go_roundg k1
      case measure => have := HK1.out; omega
      case rel => exact ⟨(wrap64 (x6_1 + 1)), (by first | rfl | (simp; done) | (simp [*]; done)), H', ⟨by have := HK1.out; omega⟩, ⟨by repeat (first | (with_reducible first | exact HB.out | apply below_alloc | apply pw_below_drewN | apply below_drew1 | refine below_set ?_ GE101.out) | exact HB.out)⟩⟩
    ·rw [if_neg c5] at H
     exact absurd H (by simp)
   ·rw [if_neg c4] at H
    have c4b0 : decide (x6_1 < 13) = false := decide_eq_false c4
    clear c4
    obtain rfl := Option.some.inj H
    go_wp2
    go_ret
    exact ⟨by first | rfl | (simp [errW_none, errW_some] <;> rfl) | (simp [*, errW_none, errW_some] <;> rfl), by repeat (first | (with_reducible first | exact HB.out | apply below_alloc | apply pw_below_drewN | apply below_drew1) | exact HB.out)⟩

/-! ### glyph_Decode: function 12, by hand -/
def glyph_Decode.l0 : Nat → ByteArray → List Int → Nat → Option (List Int × Int)
  | 0, _, _, _ => none
  | k + 1, s, l, p => if p < s.size then (glyph_Script.f k ((Utf8.decode s p).1 : Int)).bind fun t => (if t < 0 then some ([], 4) else if l.length < 17592186044416 then glyph_Decode.l0 k s (l ++ [((Utf8.decode s p).1 : Int)]) (p + (Utf8.decode s p).2) else none) else some (l, 0)
def glyph_Decode.f (k : Nat) (a0 : ByteArray) : Option (List Int × Int) := glyph_Decode.l0 k a0 [] 0
theorem glyph_Decode.mono_l : ∀ k s l p, LeO (glyph_Decode.l0 k s l p) (glyph_Decode.l0 (k + 1) s l p)
  | 0 => fun _ _ _ r h => by simp [glyph_Decode.l0] at h
  | k + 1 => by
    intro s l p
    unfold glyph_Decode.l0
    refine LeO.ite ?_ (LeO.refl _)
    have ih := glyph_Decode.mono_l k
    refine LeO.bind (glyph_Script.mono _ k) (fun _ => ?_)
    exact LeO.ite (LeO.refl _) (LeO.ite (ih _ _ _) (LeO.refl _))
theorem glyph_Decode.mono : ∀ a0 k, LeO (glyph_Decode.f k a0) (glyph_Decode.f (k + 1) a0) := fun a0 k => glyph_Decode.mono_l k a0 [] 0
set_option maxHeartbeats 8000000 in
set_option maxRecDepth 100000 in
theorem glyph_Decode.calls (k : Nat) (a0 : ByteArray) (r1 : List Int) (r2 : Int) (w : World) (h : glyph_Decode.f k a0 = some (r1, r2)) :
    Calls Try.prog 12 #[.string a0] w fun e w' => ∃ v0_ : Value, e = .returned (.tuple #[v0_, .int .i64 r2]) ∧ Kd.R (Kd.int .i64) 3 w' w.heap.size (fun _ => True) v0_ r1 ∧ Below w.heap.size w w' := by
  have H' : Aside0 (glyph_Decode.l0 k a0 [] 0 = some (r1, r2)) := ⟨h⟩
  clear h
  have rr := fun (W : World) => run_range_string (P := Try.prog) W 9 a0 Try.underlying9
  go_enter Try.func12, Try.ntmps12
  go_wp2
  have HB := Aside0.mk (show Below w.heap.size w (w.iter a0 0) from (Below.refl _ _).alloc (Nat.le_refl _) _)
  have HI := Aside0.mk (World.iter_heap w a0 0)
  go_loopg [4] k (fun kq v4 w' => ∃ (x4 : List Int) (p : Nat), Aside0 (glyph_Decode.l0 kq a0 x4 p = some (r1, r2)) ∧ Aside0 (kq ≤ k) ∧ Aside0 (Kd.R (Kd.int .i64) 3 w' w.heap.size (fun j => j ≠ w.heap.size) v4 x4) ∧ Aside0 (Below w.heap.size w w') ∧ Aside0 (w'.heap[w.heap.size]? = some (.stringIter a0 p)))
  case atStart => exact ⟨[], 0, H', ⟨Nat.le_refl _⟩, ⟨Kd.R_nil _ _ _ _ _⟩, HB, HI⟩
  case round =>
    clear H' HB HI
    obtain ⟨x4, p, HA, HK1, HO, HB, HI⟩ := hrel
    cases gk with
    | zero => exact absurd HA.out (by simp [glyph_Decode.l0])
    | succ k1 =>
      have H := HA.out
      clear HA
      simp only [glyph_Decode.l0] at H
      by_cases c : p < a0.size
      · rw [if_pos c] at H
        replace H := Option.bind_eq_some_iff.mp H
        obtain ⟨t1, A1, H⟩ := H
        obtain ⟨q, hq⟩ : ∃ q, q = p + (Utf8.decode a0 p).2 := ⟨_, rfl⟩
        have hle := decode_le a0 p
        have hn := fun ty => run_next_at (P := Try.prog) HI.out c ty
        rw [← hq] at H hn
        obtain ⟨r, hr⟩ : ∃ r : Int, r = ((Utf8.decode a0 p).1 : Int) := ⟨_, rfl⟩
        rw [← hr] at H A1 hn
        have r0 : 0 ≤ r := by omega
        have r1' : r ≤ 2147483647 := by omega
        clear hr hle hq
        have A2 := Aside0.mk A1
        clear A1
        have n0_ := Aside0.mk (Kd.R_keep HO.out (setIter_keep wr w.heap.size a0 q) (fun _ h => h))
        have n1_ := Aside0.mk (setIter_below HB.out (Nat.le_refl _) a0 q)
        have n2_ := Aside0.mk (setIter_get HI.out a0 q)
        clear HO HB HI
        have HO := n0_
        have HB := n1_
        have HI := n2_
        clear n0_ n1_ n2_
        generalize setIter wr w.heap.size a0 q = w1 at *
        by_cases c2 : t1 < 0
        · rw [if_pos c2] at H
          have c2b : decide (t1 < 0) = true := decide_eq_true c2
          clear c2
          simp only [Option.some.injEq, Prod.mk.injEq] at H
          obtain ⟨rfl, rfl⟩ := H
          go_wp2_with (fail)
          go_at_call 18
          refine (glyph_Script.calls k1 r t1 _ A2.out).mono ?_
          rintro e w2 ⟨rfl, hb⟩
          have n0_ := Aside0.mk (Kd.R_below HO.out hb)
          have n1_ := Aside0.mk (below_step HB.out hb)
          have n2_ := Aside0.mk (blk_below HI.out hb)
          clear HO HB HI
          have HO := n0_
          have HB := n1_
          have HI := n2_
          clear n0_ n1_ n2_ hb
          go_wp2
          go_ret2
          exact ⟨_, rfl, Kd.R_nil _ _ _ _ _, HB.out⟩
        · rw [if_neg c2] at H
          have c2b : decide (t1 < 0) = false := decide_eq_false c2
          clear c2
          by_cases c3 : x4.length < 17592186044416
          · rw [if_pos c3] at H
            have LM := Aside0.mk c3
            clear c3
            have H' := Aside0.mk H
            clear H
            have i3 : (Try.prog.info? 3).map (fun i => (i.zero, i.size, i.bytes)) = some (some (.int .i64 0), 1, 8) := by kernel_rfl
            have I3 := Aside0.mk i3
            clear i3
            go_wp2_with (fail)
            go_at_call 18
            refine (glyph_Script.calls k1 r t1 _ A2.out).mono ?_
            rintro e w2 ⟨rfl, hb⟩
            have n0_ := Aside0.mk (Kd.R_below HO.out hb)
            have n1_ := Aside0.mk (below_step HB.out hb)
            have n2_ := Aside0.mk (blk_below HI.out hb)
            clear HO HB HI
            have HO := n0_
            have HB := n1_
            have HI := n2_
            clear n0_ n1_ n2_ hb
            go_wp2_with (((with_reducible refine gate_builtin (b := .append) (xs := #[.tmp 16, .tmp 19]) rfl ?_); at_builtin; refine Kd.R_append (Kd.int .i64) (w0 := w) w.heap.size rfl (.tmp 16) (.tmp 19) 22 3 (.int .i64 0) 8 rfl Try.underlying22 I3.out rfl (by decide) (by omega) u4 x4 r [.int .i64 r] (fun j => j ≠ w.heap.size) (fun _ => False) rfl rfl ?aP (fun _ hk => hk.elim) ?aF ?aO ?aB ?aS ?aL ?_; (case aP => exact rfl); (case aB => exact HB.out); (case aF => exact (fun j hj => by have := blk_lt HI.out; omega)); (case aO => exact HO.out); (case aS => exact (below_size HB.out)); (case aL => have := LM.out; omega); intro v1 w3 ho hb hg hat; have n0_ := Aside0.mk ho; have n1_ := Aside0.mk hb; have n2_ := Aside0.mk (blk_grown HI.out hg (fun e => HO.out.1 _ e.symm rfl)); clear HO HB HI; have HO := n0_; have HB := n1_; have HI := n2_; clear n0_ n1_ n2_ ho hb hg hat))
            go_roundg k1
            case measure => have := HK1.out; omega
            case rel => exact ⟨_, _, H', ⟨by have := HK1.out; omega⟩, HO, HB, HI⟩
          · rw [if_neg c3] at H
            cases H
      · rw [if_neg c] at H
        simp only [Option.some.injEq, Prod.mk.injEq] at H
        obtain ⟨rfl, rfl⟩ := H
        have hn := fun ty => run_next_done (P := Try.prog) HI.out c ty
        go_wp2
        go_ret2
        exact ⟨_, rfl, Kd.R_mono HO.out (fun _ _ => trivial), HB.out⟩

/-! ### mapsheetsref06_Same: function 14 -/
def mapsheetsref06_Same.l0 : Nat → List Int → List Int → Int → Option (Bool)
 | 0, _, _, _ => none
 | k + 1, x0, x1, x5 => if x5 < (x0.length : Int) then (if 0 ≤ x5 then (if x5 < (x1.length : Int) then (if (rd x0 x5) = (rd x1 x5) then (mapsheetsref06_Same.l0 k x0 x1 (wrap64 (x5 + 1))) else (some false)) else (none)) else (none)) else (some true)
def mapsheetsref06_Same.f (k : Nat) (l0 : List Int) (l1 : List Int) : Option (Bool) := if (l0.length : Int) = (l1.length : Int) then (mapsheetsref06_Same.l0 k l0 l1 0) else (some false)
theorem mapsheetsref06_Same.mono_l : ∀ k, (∀ y0 y1 y2, LeO (mapsheetsref06_Same.l0 k y0 y1 y2) (mapsheetsref06_Same.l0 (k + 1) y0 y1 y2))
 | 0 => fun _ _ _ r h => by simp [mapsheetsref06_Same.l0] at h
 | k + 1 => by
  have ih0 := mapsheetsref06_Same.mono_l k
  ·intro y0 y1 y2
   unfold mapsheetsref06_Same.l0
   repeat' first
   | (with_reducible exact ih0 _ _ _)
   | (with_reducible exact LeO.refl _)
   | (with_reducible exact LeO.none _)
   | (with_reducible refine LeO.ite ?_ ?_)
   | (with_reducible refine LeO.bind ?_ (fun _ => ?_))
   | exact ih0 _ _ _
   | exact LeO.none _
   | refine LeO.ite ?_ ?_
   | refine LeO.bind ?_ (fun _ => ?_)
theorem mapsheetsref06_Same.mono : ∀ a0 a1 k, LeO (mapsheetsref06_Same.f k a0 a1) (mapsheetsref06_Same.f (k + 1) a0 a1) := by
 intro a0 a1 k
 have ih0 := mapsheetsref06_Same.mono_l k
 unfold mapsheetsref06_Same.f
 repeat' first
   | (with_reducible exact ih0 _ _ _)
   | (with_reducible exact LeO.refl _)
   | (with_reducible exact LeO.none _)
   | (with_reducible refine LeO.ite ?_ ?_)
   | (with_reducible refine LeO.bind ?_ (fun _ => ?_))
   | exact ih0 _ _ _
   | exact LeO.none _
   | refine LeO.ite ?_ ?_
   | refine LeO.bind ?_ (fun _ => ?_)
set_option maxHeartbeats 8000000 in
set_option maxRecDepth 100000 in
theorem mapsheetsref06_Same.calls (k : Nat) (A0 : Option Addr) (c0 : Nat) (l0 : List Int) (A1 : Option Addr) (c1 : Nat) (l1 : List Int) (r : Bool) (w : World) (hr0 : Kd.C (Kd.int .i64) w A0 l0.length l0) (hc0 : l0.length ≤ c0) (hr1 : Kd.C (Kd.int .i64) w A1 l1.length l1) (hc1 : l1.length ≤ c1) (h : mapsheetsref06_Same.f k l0 l1 = some r) :
  Calls Try.prog 14 #[.slice A0 l0.length c0, .slice A1 l1.length c1] w fun e w' => e = .returned (.bool r) ∧ Drawn0 w w' := by
 have HR0 := Aside0.mk hr0
 have HC0 := Aside0.mk hc0
 clear hr0 hc0
 have HR1 := Aside0.mk hr1
 have HC1 := Aside0.mk hc1
 clear hr1 hc1
 have H : (if (l0.length : Int) = (l1.length : Int) then (mapsheetsref06_Same.l0 k l0 l1 0) else (some false)) = some r := h
 clear h
 by_cases c3 : (l0.length : Int) = (l1.length : Int)
 ·rw [if_pos c3] at H
  have c3b0 : ((l0.length : Int) == (l1.length : Int)) = true := beq_iff_eq.mpr c3
  have c3b1 : ((l0.length : Int) != (l1.length : Int)) = false := bne_eq_false_iff_eq.mpr c3
  have c3b2 : (l0.length == l1.length) = true := by first | simpa using c3 | (simp at c3 ⊢; omega)
  clear c3
  have H' := Aside0.mk H
  clear H
  go_enter Try.func14, Try.ntmps14
  go_wp2
  repeat (go_quiet (fail); try go_wp2)
  go_loopg [5] k (fun kq v5 w' => ∃ (x5_1 : Int), v5 = .int .i64 x5_1 ∧ Aside0 (mapsheetsref06_Same.l0 kq l0 l1 x5_1 = some r) ∧ Aside0 (kq ≤ k) ∧ Drawn0 w w')
  case atStart => exact ⟨(0), (by first | rfl | (simp; done) | (simp [*]; done)), H', ⟨Nat.le_refl _⟩, by repeat (first | exact Drawn0.refl _ | apply Drawn0.step)⟩
  case round =>
   clear H'
   try clear c1
   try clear p2
   try clear c3
   try clear c3b0
   try clear c3b1
   try clear c3b2
   obtain ⟨x5_1, rfl, HA, HK1, ⟨m1, rfl⟩⟩ := hrel
   cases gk with
   | zero => exact absurd HA.out (by simp [mapsheetsref06_Same.l0])
   | succ k1 =>
    have H := HA.out
    clear HA
    simp only [mapsheetsref06_Same.l0] at H
    by_cases c4 : x5_1 < (l0.length : Int)
    ·rw [if_pos c4] at H
     have c4b0 : decide (x5_1 < (l0.length : Int)) = true := decide_eq_true c4
     clear c4
     by_cases c5 : 0 ≤ x5_1
     ·rw [if_pos c5] at H
      have c5b0 : decide (0 ≤ x5_1) = true := decide_eq_true c5
      clear c5
      by_cases c6 : x5_1 < (l1.length : Int)
      ·rw [if_pos c6] at H
       have c6b0 : decide (x5_1 < (l1.length : Int)) = true := decide_eq_true c6
       clear c6
       by_cases c7 : (rd l0 x5_1) = (rd l1 x5_1)
       ·rw [if_pos c7] at H
        have c7b0 : ((rd l0 x5_1) == (rd l1 x5_1)) = true := beq_iff_eq.mpr c7
        have c7b1 : ((rd l0 x5_1) != (rd l1 x5_1)) = false := bne_eq_false_iff_eq.mpr c7
        clear c7
        have H' := Aside0.mk H
        clear H
        have p118 : 0 ≤ (x5_1 : Int) := of_decide_eq_true (by first | (with_reducible assumption) | assumption)
        have q118 : x5_1 < (l0.length : Int) := of_decide_eq_true (by first | (with_reducible assumption) | assumption)
        obtain ⟨ad118, e118, hx118_0⟩ := Kd.at_int HR0.out x5_1 p118 q118
        cases e118
        replace p118 := eq_true p118
        replace q118 := eq_true q118
        have p119 : 0 ≤ (x5_1 : Int) := of_decide_eq_true (by first | (with_reducible assumption) | assumption)
        have q119 : x5_1 < (l1.length : Int) := of_decide_eq_true (by first | (with_reducible assumption) | assumption)
        obtain ⟨ad119, e119, hx119_0⟩ := Kd.at_int HR1.out x5_1 p119 q119
        cases e119
        replace p119 := eq_true p119
        replace q119 := eq_true q119
        go_wp2
        repeat (go_quiet (fail); try go_wp2)
        go_roundg k1
        case measure => have := HK1.out; omega
        case rel => exact ⟨(wrap64 (x5_1 + 1)), (by first | rfl | (simp; done) | (simp [*]; done)), H', ⟨by have := HK1.out; omega⟩, by repeat (first | exact Drawn0.refl _ | apply Drawn0.step)⟩
       ·rw [if_neg c7] at H
        have c7b0 : ((rd l0 x5_1) == (rd l1 x5_1)) = false := beq_eq_false_iff_ne.mpr c7
        have c7b1 : ((rd l0 x5_1) != (rd l1 x5_1)) = true := bne_iff_ne.mpr c7
        obtain rfl := Option.some.inj H
        have p118 : 0 ≤ (x5_1 : Int) := of_decide_eq_true (by first | (with_reducible assumption) | assumption)
        have q118 : x5_1 < (l0.length : Int) := of_decide_eq_true (by first | (with_reducible assumption) | assumption)
        obtain ⟨ad118, e118, hx118_0⟩ := Kd.at_int HR0.out x5_1 p118 q118
        cases e118
        replace p118 := eq_true p118
        replace q118 := eq_true q118
        have p119 : 0 ≤ (x5_1 : Int) := of_decide_eq_true (by first | (with_reducible assumption) | assumption)
        have q119 : x5_1 < (l1.length : Int) := of_decide_eq_true (by first | (with_reducible assumption) | assumption)
        obtain ⟨ad119, e119, hx119_0⟩ := Kd.at_int HR1.out x5_1 p119 q119
        cases e119
        replace p119 := eq_true p119
        replace q119 := eq_true q119
        go_wp2
        repeat (go_quiet (fail); try go_wp2)
        go_ret
        exact ⟨by first | rfl | (simp; done) | (simp [*]; done), by repeat (first | exact Drawn0.refl _ | apply Drawn0.step)⟩
      ·rw [if_neg c6] at H
       exact absurd H (by simp)
     ·rw [if_neg c5] at H
      exact absurd H (by simp)
    ·rw [if_neg c4] at H
     have c4b0 : decide (x5_1 < (l0.length : Int)) = false := decide_eq_false c4
     clear c4
     obtain rfl := Option.some.inj H
     go_wp2
     repeat (go_quiet (fail); try go_wp2)
     go_ret
     exact ⟨by first | rfl | (simp; done) | (simp [*]; done), by repeat (first | exact Drawn0.refl _ | apply Drawn0.step)⟩
 ·rw [if_neg c3] at H
  have c3b0 : ((l0.length : Int) == (l1.length : Int)) = false := beq_eq_false_iff_ne.mpr c3
  have c3b1 : ((l0.length : Int) != (l1.length : Int)) = true := bne_iff_ne.mpr c3
  have c3b2 : (l0.length == l1.length) = false := by first | simpa using c3 | (simp at c3 ⊢; omega)
  obtain rfl := Option.some.inj H
  go_enter Try.func14, Try.ntmps14
  go_wp2
  repeat (go_quiet (fail); try go_wp2)
  go_ret
  exact ⟨by first | rfl | (simp; done) | (simp [*]; done), by repeat (first | exact Drawn0.refl _ | apply Drawn0.step)⟩

/-! ### glyph_Encode: function 16 -/
def glyph_Encode.l0 : Nat → List Int → List Int → Int → Int → Option (ByteArray × Int)
 | 0, _, _, _, _ => none
 | k + 1, x4, x7, x8, x9 => if x9 < x8 then (if 0 ≤ x9 then (if x9 < (x7.length : Int) then ((glyph_Script.f k (rd x7 x9)).bind fun t121 => (if t121 < 0 then (some ((⟨#[]⟩ : ByteArray), 4)) else (if x4.length < 35184372088832 then (glyph_Encode.l0 k (x4 ++ [wrap32 (rd x7 x9)]) x7 x8 (wrap64 (x9 + 1))) else (none)))) else (none)) else (none)) else (some (strOfRunes x4, 0))
def glyph_Encode.f (k : Nat) (l0 : List Int) : Option (ByteArray × Int) := glyph_Encode.l0 k ([] : List Int) l0 (l0.length : Int) 0
theorem glyph_Encode.mono_l : ∀ k, (∀ y0 y1 y2 y3, LeO (glyph_Encode.l0 k y0 y1 y2 y3) (glyph_Encode.l0 (k + 1) y0 y1 y2 y3))
 | 0 => fun _ _ _ _ r h => by simp [glyph_Encode.l0] at h
 | k + 1 => by
  have ih0 := glyph_Encode.mono_l k
  ·intro y0 y1 y2 y3
   unfold glyph_Encode.l0
   repeat' first
   | (with_reducible exact ih0 _ _ _ _)
   | (with_reducible exact glyph_Script.mono _ _)
   | (with_reducible exact LeO.refl _)
   | (with_reducible exact LeO.none _)
   | (with_reducible refine LeO.ite ?_ ?_)
   | (with_reducible refine LeO.bind ?_ (fun _ => ?_))
   | exact ih0 _ _ _ _
   | exact glyph_Script.mono _ _
   | exact LeO.none _
   | refine LeO.ite ?_ ?_
   | refine LeO.bind ?_ (fun _ => ?_)
theorem glyph_Encode.mono : ∀ a0 k, LeO (glyph_Encode.f k a0) (glyph_Encode.f (k + 1) a0) := by
 intro a0 k
 have ih0 := glyph_Encode.mono_l k
 unfold glyph_Encode.f
 repeat' first
   | (with_reducible exact ih0 _ _ _ _)
   | (with_reducible exact glyph_Script.mono _ _)
   | (with_reducible exact LeO.refl _)
   | (with_reducible exact LeO.none _)
   | (with_reducible refine LeO.ite ?_ ?_)
   | (with_reducible refine LeO.bind ?_ (fun _ => ?_))
   | exact ih0 _ _ _ _
   | exact glyph_Script.mono _ _
   | exact LeO.none _
   | refine LeO.ite ?_ ?_
   | refine LeO.bind ?_ (fun _ => ?_)
set_option maxHeartbeats 8000000 in
set_option maxRecDepth 100000 in
theorem glyph_Encode.calls (k : Nat) (A0 : Option Addr) (c0 : Nat) (l0 : List Int) (r1 : ByteArray) (r2 : Int) (w : World) (hr0 : Kd.C (Kd.int .i64) w A0 l0.length l0) (hc0 : l0.length ≤ c0) (h : glyph_Encode.f k l0 = some (r1, r2)) :
  Calls Try.prog 16 #[.slice A0 l0.length c0] w fun e w' => e = .returned (.tuple #[.string r1, .int .i64 r2]) ∧ Below w.heap.size w w' := by
 have HR0 := Aside0.mk hr0
 have HC0 := Aside0.mk hc0
 clear hr0 hc0
 have HB := Aside0.mk (Below.refl w.heap.size w)
 have H : (glyph_Encode.l0 k ([] : List Int) l0 (l0.length : Int) 0) = some (r1, r2) := h
 clear h
 have H' := Aside0.mk H
 clear H
 go_enter Try.func16, Try.ntmps16
 go_wp2
 go_loopg [4, 9] k (fun kq v4 v9 w' => ∃ (x4_1 : List Int) (x9_1 : Int), v9 = .int .i64 x9_1 ∧ Aside0 (glyph_Encode.l0 kq x4_1 l0 (l0.length : Int) x9_1 = some (r1, r2)) ∧ Aside0 (kq ≤ k) ∧ Aside0 (Kd.R (Kd.int .i32) 21 w' w.heap.size (fun _ => True) v4 x4_1) ∧ Aside0 (Below w.heap.size w w'))
 case atStart => exact ⟨(([] : List Int)), (0), (by first | rfl | (simp; done) | (simp [*]; done)), H', ⟨Nat.le_refl _⟩, ⟨by first | exact Kd.R_nil _ _ _ _ _ | exact Kd.N_nil _ _ _ _ _ | exact Kd.V_nil _ _ _ _ _ | exact Kd.Q_nil _ _ _ _ _ | exact Kd.S_nil _ _ _ _ _⟩, ⟨by repeat (first | (with_reducible first | exact HB.out | apply below_alloc | apply pw_below_drewN | apply below_drew1) | exact HB.out)⟩⟩
 case round =>
  clear H'
  try clear c1
  obtain ⟨x4_1, x9_1, rfl, HA, HK1, HO_4, HB⟩ := hrel
  cases gk with
  | zero => exact absurd HA.out (by simp [glyph_Encode.l0])
  | succ k1 =>
   have H := HA.out
   clear HA
   simp only [glyph_Encode.l0] at H
   by_cases c2 : x9_1 < (l0.length : Int)
   ·rw [if_pos c2] at H
    have c2b0 : decide (x9_1 < (l0.length : Int)) = true := decide_eq_true c2
    clear c2
    by_cases c3 : 0 ≤ x9_1
    ·rw [if_pos c3] at H
     have c3b0 : decide (0 ≤ x9_1) = true := decide_eq_true c3
     clear c3
     by_cases c4 : x9_1 < (l0.length : Int)
     ·rw [if_pos c4] at H
      have c4b0 : decide (x9_1 < (l0.length : Int)) = true := decide_eq_true c4
      clear c4
      replace H := Option.bind_eq_some_iff.mp H
      obtain ⟨t121, A50, H⟩ := H
      replace H : (if t121 < 0 then (some ((⟨#[]⟩ : ByteArray), 4)) else (if x4_1.length < 35184372088832 then (glyph_Encode.l0 k1 (x4_1 ++ [wrap32 (rd l0 x9_1)]) l0 (l0.length : Int) (wrap64 (x9_1 + 1))) else (none))) = some (r1, r2) := H
      have A5 := Aside0.mk A50
      clear A50
      by_cases c6 : t121 < 0
      ·rw [if_pos c6] at H
       have c6b0 : decide (t121 < 0) = true := decide_eq_true c6
       clear c6
       simp only [Option.some.injEq, Prod.mk.injEq] at H
       obtain ⟨rfl, rfl⟩ := H
       have p120 : 0 ≤ (x9_1 : Int) := of_decide_eq_true (by first | (with_reducible assumption) | assumption)
       have q120 : x9_1 < (l0.length : Int) := of_decide_eq_true (by first | (with_reducible assumption) | assumption)
       obtain ⟨ad120, e120, hx120_0⟩ := Kd.at_int HR0.out x9_1 p120 q120
       cases e120
       replace hx120_0 := (HB.out.cell (World.block_lt_of_cell? w _ hx120_0)).trans hx120_0
       replace p120 := eq_true p120
       replace q120 := eq_true q120
       go_wp2_with (first | ((with_reducible refine gate_callee (f := 18) rfl ?_); refine goesL_ (some 14) rfl rfl Try.func18 (by kernel_rfl) rfl #[.int .i64 (rd l0 x9_1)] rfl (by (try simp only [List.map_toArray, List.map_cons, List.map_nil]); first | done | rfl | (simp only [List.length_drop, List.length_take]; rfl)) ?_; (with_reducible refine (glyph_Script.calls k1 (rd l0 x9_1) t121 _ A5.out).mono ?_); rintro e w7 ⟨rfl, hb⟩; refine ⟨_, rfl, ?_⟩; have n0_ := Aside0.mk (Kd.R_below (by (with_reducible repeat (first | apply Kd.R_alloc | apply Kd.R_drewN | apply Kd.R_drew)); exact HO_4.out) hb); have n1_ := Aside0.mk (below_step (by repeat (first | (with_reducible first | exact HB.out | apply below_alloc | apply pw_below_drewN | apply below_drew1) | exact HB.out)) hb); clear HO_4; clear HB; have HO_4 := n0_; have HB := n1_; clear n0_ n1_; (try clear hb); (try clear hb2); (try clear hk); (try clear hi)))
       go_ret2
       exact ⟨by first | rfl | (simp [errW_none, errW_some] <;> rfl) | (simp [*, errW_none, errW_some] <;> rfl), by repeat (first | (with_reducible first | exact HB.out | apply below_alloc | apply pw_below_drewN | apply below_drew1) | exact HB.out)⟩
      ·rw [if_neg c6] at H
       have c6b0 : decide (t121 < 0) = false := decide_eq_false c6
       clear c6
       by_cases c8 : x4_1.length < 35184372088832
       ·rw [if_pos c8] at H
        have LMc8 := Aside0.mk c8
        clear c8
        obtain ⟨y122, hy122⟩ : ∃ y_ : List Int, y_ = (x4_1 ++ [wrap32 (rd l0 x9_1)]) := ⟨_, rfl⟩
        replace H : (glyph_Encode.l0 k1 y122 l0 (l0.length : Int) (wrap64 (x9_1 + 1))) = some (r1, r2) := by first | (rw [hy122]; with_reducible exact H) | (have H2_ := (Option.bind_some _ _).symm.trans H; rw [hy122]; with_reducible exact H2_) | (have H2_ := (Option.bind_some _ _).symm.trans H; with_reducible exact H2_) | with_reducible exact H | (rw [hy122]; exact H) | exact H
        have Ny122 := Aside0.mk hy122
        clear hy122
        have H' := Aside0.mk H
        clear H
        have p120 : 0 ≤ (x9_1 : Int) := of_decide_eq_true (by first | (with_reducible assumption) | assumption)
        have q120 : x9_1 < (l0.length : Int) := of_decide_eq_true (by first | (with_reducible assumption) | assumption)
        obtain ⟨ad120, e120, hx120_0⟩ := Kd.at_int HR0.out x9_1 p120 q120
        cases e120
        replace hx120_0 := (HB.out.cell (World.block_lt_of_cell? w _ hx120_0)).trans hx120_0
        replace p120 := eq_true p120
        replace q120 := eq_true q120
        go_wp2_with (first | ((with_reducible refine gate_callee (f := 18) rfl ?_); refine goesL_ (some 14) rfl rfl Try.func18 (by kernel_rfl) rfl #[.int .i64 (rd l0 x9_1)] rfl (by (try simp only [List.map_toArray, List.map_cons, List.map_nil]); first | done | rfl | (simp only [List.length_drop, List.length_take]; rfl)) ?_; (with_reducible refine (glyph_Script.calls k1 (rd l0 x9_1) t121 _ A5.out).mono ?_); rintro e w9 ⟨rfl, hb⟩; refine ⟨_, rfl, ?_⟩; have n0_ := Aside0.mk (Kd.R_below (by (with_reducible repeat (first | apply Kd.R_alloc | apply Kd.R_drewN | apply Kd.R_drew)); exact HO_4.out) hb); have n1_ := Aside0.mk (below_step (by repeat (first | (with_reducible first | exact HB.out | apply below_alloc | apply pw_below_drewN | apply below_drew1) | exact HB.out)) hb); clear HO_4; clear HB; have HO_4 := n0_; have HB := n1_; clear n0_ n1_; (try clear hb); (try clear hb2); (try clear hk); (try clear hi)) | ((with_reducible refine gate_builtin (b := .append) (xs := #[.tmp 16, .tmp 19]) rfl ?_); at_builtin; refine Kd.R_append (Kd.int .i32) (w0 := w) w.heap.size rfl (.tmp 16) (.tmp 19) 42 21 (.int .i32 0) 4 rfl Try.underlying42 info21 rfl (by decide) (by omega) u4 x4_1 (wrap32 (rd l0 x9_1)) [.int .i32 (wrap32 (rd l0 x9_1))] (fun _ => True) (fun _ => False) rfl rfl ?aP (fun _ hk => hk.elim) ?aF ?aO ?aB ?aS ?aL ?_; (case aP => exact rfl); (case aB => exact (by repeat (first | (with_reducible first | exact HB.out | apply below_alloc | apply pw_below_drewN | apply below_drew1) | exact HB.out))); (case aF => exact (fun _ _ => trivial)); (case aO => exact (by (with_reducible repeat (first | apply Kd.R_alloc | apply Kd.R_drewN | apply Kd.R_drew)); exact HO_4.out)); (case aS => exact (below_size (by repeat (first | (with_reducible first | exact HB.out | apply below_alloc | apply pw_below_drewN | apply below_drew1) | exact HB.out)))); (case aL => have := LMc8.out; omega); intro v123 w10 ho hb hg hat; rw [← Ny122.out] at ho; have n0_ := Aside0.mk (hb); have n1_ := Aside0.mk (ho); clear HB; clear HO_4; have HB := n0_; have HO124 := n1_; clear n0_ n1_; clear ho hb hg hat))
        go_roundg k1
        case measure => have := HK1.out; omega
        case rel => exact ⟨(y122), (wrap64 (x9_1 + 1)), (by first | rfl | (simp; done) | (simp [*]; done)), H', ⟨by have := HK1.out; omega⟩, ⟨by (with_reducible repeat (first | apply Kd.R_alloc | apply Kd.R_drewN | apply Kd.R_drew)); exact HO124.out⟩, ⟨by repeat (first | (with_reducible first | exact HB.out | apply below_alloc | apply pw_below_drewN | apply below_drew1) | exact HB.out)⟩⟩
       ·rw [if_neg c8] at H
        exact absurd H (by simp)
     ·rw [if_neg c4] at H
      exact absurd H (by simp)
    ·rw [if_neg c3] at H
     exact absurd H (by simp)
   ·rw [if_neg c2] at H
    have c2b0 : decide (x9_1 < (l0.length : Int)) = false := decide_eq_false c2
    clear c2
    simp only [Option.some.injEq, Prod.mk.injEq] at H
    obtain ⟨rfl, rfl⟩ := H
    have hcv11 := own_runes (P := Try.prog) Try.underlying42 Try.underlying21 Try.underlying9 (Kd.own_of_R HO_4.out)
    go_wp2
    go_ret2
    exact ⟨by first | rfl | (simp [errW_none, errW_some] <;> rfl) | (simp [*, errW_none, errW_some] <;> rfl), by repeat (first | (with_reducible first | exact HB.out | apply below_alloc | apply pw_below_drewN | apply below_drew1) | exact HB.out)⟩

/-! ### glyph_digit: function 31 -/
def glyph_digit.f (a0 : Int) : Option (Bool) := if a0 ≥ 48 then (some (decide (a0 ≤ 57))) else (some false)
set_option maxHeartbeats 8000000 in
set_option maxRecDepth 100000 in
theorem glyph_digit.calls (a0 : Int) (r : Bool) (w : World) (h : glyph_digit.f a0 = some r) :
  Calls Try.prog 31 #[.int .i64 a0] w fun e w' => e = .returned (.bool r) ∧ Drawn0 w w' := by
 have H : (if a0 ≥ 48 then (some (decide (a0 ≤ 57))) else (some false)) = some r := h
 clear h
 by_cases c2 : a0 ≥ 48
 ·rw [if_pos c2] at H
  have c2b0 : decide (48 ≤ a0) = true := decide_eq_true c2
  clear c2
  obtain rfl := Option.some.inj H
  go_enter Try.func31, Try.ntmps31
  go_wp2
  go_ret
  exact ⟨by first | rfl | (simp; done) | (simp [*]; done), by repeat (first | exact Drawn0.refl _ | apply Drawn0.step)⟩
 ·rw [if_neg c2] at H
  have c2b0 : decide (48 ≤ a0) = false := decide_eq_false c2
  clear c2
  obtain rfl := Option.some.inj H
  go_enter Try.func31, Try.ntmps31
  go_wp2
  go_ret
  exact ⟨by first | rfl | (simp; done) | (simp [*]; done), by repeat (first | exact Drawn0.refl _ | apply Drawn0.step)⟩

/-! ### glyph_Width: function 20 -/
def glyph_Width.j0 : Nat → Int → Int → Int → Bool → Option (Int)
 | 0, _, _, _, _ => none
 | k + 1, x0, x1, x5, x8 => if x8 = true then (some 0) else (if x5 = 5 then (some x1) else (if x5 = 0 then ((glyph_digit.f x0).bind fun t126 => (if t126 = true then (some (wrap64 (Int.tdiv (wrap64 ((wrap64 (2 * x1)) + 2)) 3))) else (some (wrap64 (Int.tdiv (wrap64 (x1 + 1)) 2))))) else (some (wrap64 (Int.tdiv (wrap64 ((wrap64 (2 * x1)) + 2)) 3)))))
def glyph_Width.f (k : Nat) (a0 : Int) (a1 : Int) : Option (Int) := (glyph_Script.f k a0).bind fun t125 => (if a1 < 1 then (glyph_Width.j0 k a0 a1 t125 true) else (if a1 > 64 then (glyph_Width.j0 k a0 a1 t125 true) else (glyph_Width.j0 k a0 a1 t125 (decide (t125 < 0)))))
theorem glyph_Width.mono_l : ∀ k, (∀ y0 y1 y2 y3, LeO (glyph_Width.j0 k y0 y1 y2 y3) (glyph_Width.j0 (k + 1) y0 y1 y2 y3))
 | 0 => fun _ _ _ _ r h => by simp [glyph_Width.j0] at h
 | k + 1 => by
  have ih0 := glyph_Width.mono_l k
  ·intro y0 y1 y2 y3
   unfold glyph_Width.j0
   repeat' first
   | (with_reducible exact ih0 _ _ _ _)
   | (with_reducible exact glyph_Script.mono _ _)
   | (with_reducible exact LeO.refl _)
   | (with_reducible exact LeO.none _)
   | (with_reducible refine LeO.ite ?_ ?_)
   | (with_reducible refine LeO.bind ?_ (fun _ => ?_))
   | exact ih0 _ _ _ _
   | exact glyph_Script.mono _ _
   | exact LeO.none _
   | refine LeO.ite ?_ ?_
   | refine LeO.bind ?_ (fun _ => ?_)
theorem glyph_Width.mono : ∀ a0 a1 k, LeO (glyph_Width.f k a0 a1) (glyph_Width.f (k + 1) a0 a1) := by
 intro a0 a1 k
 have ih0 := glyph_Width.mono_l k
 unfold glyph_Width.f
 repeat' first
   | (with_reducible exact ih0 _ _ _ _)
   | (with_reducible exact glyph_Script.mono _ _)
   | (with_reducible exact LeO.refl _)
   | (with_reducible exact LeO.none _)
   | (with_reducible refine LeO.ite ?_ ?_)
   | (with_reducible refine LeO.bind ?_ (fun _ => ?_))
   | exact ih0 _ _ _ _
   | exact glyph_Script.mono _ _
   | exact LeO.none _
   | refine LeO.ite ?_ ?_
   | refine LeO.bind ?_ (fun _ => ?_)
set_option maxHeartbeats 8000000 in
set_option maxRecDepth 100000 in
theorem glyph_Width.calls (k : Nat) (a0 : Int) (a1 : Int) (r : Int) (w : World) (h : glyph_Width.f k a0 a1 = some r) :
  Calls Try.prog 20 #[.int .i64 a0, .int .i64 a1] w fun e w' => e = .returned (.int .i64 r) ∧ Below w.heap.size w w' := by
 have HB := Aside0.mk (Below.refl w.heap.size w)
 have H : ((glyph_Script.f k a0).bind fun t125 => (if a1 < 1 then (glyph_Width.j0 k a0 a1 t125 true) else (if a1 > 64 then (glyph_Width.j0 k a0 a1 t125 true) else (glyph_Width.j0 k a0 a1 t125 (decide (t125 < 0)))))) = some r := h
 clear h
 replace H := Option.bind_eq_some_iff.mp H
 obtain ⟨t125, A30, H⟩ := H
 replace H : (if a1 < 1 then (glyph_Width.j0 k a0 a1 t125 true) else (if a1 > 64 then (glyph_Width.j0 k a0 a1 t125 true) else (glyph_Width.j0 k a0 a1 t125 (decide (t125 < 0))))) = some r := H
 have A3 := Aside0.mk A30
 clear A30
 have HC4 := Aside0.mk H
 clear H
 go_enter Try.func20, Try.ntmps20
 go_upto_region 2 with (first | ((with_reducible refine gate_callee (f := 18) rfl ?_); refine goesL_ (some 7) rfl rfl Try.func18 (by kernel_rfl) rfl #[.int .i64 a0] rfl (by (try simp only [List.map_toArray, List.map_cons, List.map_nil]); first | done | rfl | (simp only [List.length_drop, List.length_take]; rfl)) ?_; (with_reducible refine (glyph_Script.calls k a0 t125 _ A3.out).mono ?_); rintro e w5 ⟨rfl, hb⟩; refine ⟨_, rfl, ?_⟩; have n0_ := Aside0.mk (below_step (by repeat (first | (with_reducible first | exact HB.out | apply below_alloc | apply pw_below_drewN | apply below_drew1) | exact HB.out)) hb); clear HB; have HB := n0_; clear n0_; (try clear hb); (try clear hb2); (try clear hk); (try clear hi)))
 (try simp only [Act.put, List.setIfInBounds_toArray, List.set_cons_zero, List.set_cons_succ])
 go_cut [8] (fun v8 wc => ∃ (kq : Nat) (x8_3 : Bool), v8 = .bool x8_3 ∧ Aside0 (glyph_Width.j0 kq a0 a1 t125 x8_3 = some r) ∧ Aside0 (kq ≤ k) ∧ Aside0 (Below w.heap.size w wc))
 case first =>
  have H := HC4.out
  clear HC4
  by_cases c6 : a1 < 1
  ·rw [if_pos c6] at H
   have c6b0 : decide (a1 < 1) = true := decide_eq_true c6
   clear c6
   (first | rw [c6b0] | (simp only [i64_w, i32_w]; rw [c6b0]) | skip)
   have H' := Aside0.mk H
   clear H
   go_wp2
   go_meet
   case rel => exact ⟨_, (true), (by first | rfl | (simp; done) | (simp [*]; done)), H', ⟨by first | omega | exact Nat.le_refl _⟩, ⟨by repeat (first | (with_reducible first | exact HB.out | apply below_alloc | apply pw_below_drewN | apply below_drew1) | exact HB.out)⟩⟩
  ·rw [if_neg c6] at H
   have c6b0 : decide (a1 < 1) = false := decide_eq_false c6
   clear c6
   (first | rw [c6b0] | (simp only [i64_w, i32_w]; rw [c6b0]) | skip)
   by_cases c7 : a1 > 64
   ·rw [if_pos c7] at H
    have c7b0 : decide (64 < a1) = true := decide_eq_true c7
    clear c7
    have H' := Aside0.mk H
    clear H
    go_wp2
    go_meet
    case rel => exact ⟨_, (true), (by first | rfl | (simp; done) | (simp [*]; done)), H', ⟨by first | omega | exact Nat.le_refl _⟩, ⟨by repeat (first | (with_reducible first | exact HB.out | apply below_alloc | apply pw_below_drewN | apply below_drew1) | exact HB.out)⟩⟩
   ·rw [if_neg c7] at H
    have c7b0 : decide (64 < a1) = false := decide_eq_false c7
    clear c7
    have H' := Aside0.mk H
    clear H
    go_wp2
    go_meet
    case rel => exact ⟨_, (decide (t125 < 0)), (by first | rfl | (simp; done) | (simp [*]; done)), H', ⟨by first | omega | exact Nat.le_refl _⟩, ⟨by repeat (first | (with_reducible first | exact HB.out | apply below_alloc | apply pw_below_drewN | apply below_drew1) | exact HB.out)⟩⟩
 case rest =>
  clear HC4
  try clear c1
  try clear c2
  try clear p2
  try clear c6
  try clear c6b0
  try clear c7
  try clear c7b0
  obtain ⟨kq, x8_3, rfl, HA, HJ3, HB⟩ := hcut
  cases kq with
  | zero => exact absurd HA.out (by simp [glyph_Width.j0])
  | succ kj3 =>
   have H := HA.out
   clear HA
   simp only [glyph_Width.j0] at H
   by_cases c8 : x8_3 = true
   ·subst c8
    have H1 : (some 0) = some r := by rw [if_pos rfl] at H; exact H
    clear H
    have H := H1
    clear H1
    obtain rfl := Option.some.inj H
    go_wp2
    go_ret
    exact ⟨by first | rfl | (simp [errW_none, errW_some] <;> rfl) | (simp [*, errW_none, errW_some] <;> rfl), by repeat (first | (with_reducible first | exact HB.out | apply below_alloc | apply pw_below_drewN | apply below_drew1) | exact HB.out)⟩
   ·replace c8 := Bool.eq_false_iff.mpr c8
    subst c8
    have H1 : (if t125 = 5 then (some a1) else (if t125 = 0 then ((glyph_digit.f a0).bind fun t126 => (if t126 = true then (some (wrap64 (Int.tdiv (wrap64 ((wrap64 (2 * a1)) + 2)) 3))) else (some (wrap64 (Int.tdiv (wrap64 (a1 + 1)) 2))))) else (some (wrap64 (Int.tdiv (wrap64 ((wrap64 (2 * a1)) + 2)) 3))))) = some r := by rw [if_neg (show ¬ (false = true) by decide)] at H; exact H
    clear H
    have H := H1
    clear H1
    by_cases c9 : t125 = 5
    ·rw [if_pos c9] at H
     have c9b0 : (t125 == 5) = true := beq_iff_eq.mpr c9
     have c9b1 : (t125 != 5) = false := bne_eq_false_iff_eq.mpr c9
     clear c9
     obtain rfl := Option.some.inj H
     go_wp2
     go_ret
     exact ⟨by first | rfl | (simp [errW_none, errW_some] <;> rfl) | (simp [*, errW_none, errW_some] <;> rfl), by repeat (first | (with_reducible first | exact HB.out | apply below_alloc | apply pw_below_drewN | apply below_drew1) | exact HB.out)⟩
    ·rw [if_neg c9] at H
     have c9b0 : (t125 == 5) = false := beq_eq_false_iff_ne.mpr c9
     have c9b1 : (t125 != 5) = true := bne_iff_ne.mpr c9
     by_cases c10 : t125 = 0
     ·rw [if_pos c10] at H
      have c10b0 : (t125 == 0) = true := beq_iff_eq.mpr c10
      have c10b1 : (t125 != 0) = false := bne_eq_false_iff_eq.mpr c10
      clear c10
      replace H := Option.bind_eq_some_iff.mp H
      obtain ⟨t126, A110, H⟩ := H
      replace H : (if t126 = true then (some (wrap64 (Int.tdiv (wrap64 ((wrap64 (2 * a1)) + 2)) 3))) else (some (wrap64 (Int.tdiv (wrap64 (a1 + 1)) 2)))) = some r := H
      have A11 := Aside0.mk A110
      clear A110
      by_cases c12 : t126 = true
      ·subst c12
       have H1 : (some (wrap64 (Int.tdiv (wrap64 ((wrap64 (2 * a1)) + 2)) 3))) = some r := by rw [if_pos rfl] at H; exact H
       clear H
       have H := H1
       clear H1
       obtain rfl := Option.some.inj H
       go_wp2_with (first | (go_at_call 31; (with_reducible refine (glyph_digit.calls a0 true _ A11.out).mono ?_); rintro e w' ⟨rfl, ⟨nd, rfl⟩⟩))
       go_ret
       exact ⟨by first | rfl | (simp [errW_none, errW_some] <;> rfl) | (simp [*, errW_none, errW_some] <;> rfl), by repeat (first | (with_reducible first | exact HB.out | apply below_alloc | apply pw_below_drewN | apply below_drew1) | exact HB.out)⟩
      ·replace c12 := Bool.eq_false_iff.mpr c12
       subst c12
       have H1 : (some (wrap64 (Int.tdiv (wrap64 (a1 + 1)) 2))) = some r := by rw [if_neg (show ¬ (false = true) by decide)] at H; exact H
       clear H
       have H := H1
       clear H1
       obtain rfl := Option.some.inj H
       go_wp2_with (first | (go_at_call 31; (with_reducible refine (glyph_digit.calls a0 false _ A11.out).mono ?_); rintro e w' ⟨rfl, ⟨nd, rfl⟩⟩))
       go_ret
       exact ⟨by first | rfl | (simp [errW_none, errW_some] <;> rfl) | (simp [*, errW_none, errW_some] <;> rfl), by repeat (first | (with_reducible first | exact HB.out | apply below_alloc | apply pw_below_drewN | apply below_drew1) | exact HB.out)⟩
     ·rw [if_neg c10] at H
      have c10b0 : (t125 == 0) = false := beq_eq_false_iff_ne.mpr c10
      have c10b1 : (t125 != 0) = true := bne_iff_ne.mpr c10
      obtain rfl := Option.some.inj H
      go_wp2
      go_ret
      exact ⟨by first | rfl | (simp [errW_none, errW_some] <;> rfl) | (simp [*, errW_none, errW_some] <;> rfl), by repeat (first | (with_reducible first | exact HB.out | apply below_alloc | apply pw_below_drewN | apply below_drew1) | exact HB.out)⟩

/-! ### glyph_shifts: function 32, by hand -/
def glyph_shifts.f : Option Unit := some ()
set_option maxHeartbeats 4000000 in
set_option maxRecDepth 100000 in
theorem glyph_shifts.calls (w : World) {r : Unit} (h : glyph_shifts.f = some r) :
    Calls Try.prog 32 #[] w fun e w' => e = .returned (.agg #[.int .i64 65, .int .i64 90, .int .i64 1, .int .i64 32, .int .i64 192, .int .i64 214, .int .i64 1, .int .i64 32, .int .i64 216, .int .i64 222, .int .i64 1, .int .i64 32, .int .i64 913, .int .i64 937, .int .i64 1, .int .i64 32, .int .i64 1040, .int .i64 1071, .int .i64 1, .int .i64 32, .int .i64 1024, .int .i64 1039, .int .i64 1, .int .i64 80, .int .i64 256, .int .i64 310, .int .i64 2, .int .i64 1, .int .i64 330, .int .i64 374, .int .i64 2, .int .i64 1, .int .i64 313, .int .i64 327, .int .i64 2, .int .i64 1, .int .i64 377, .int .i64 381, .int .i64 2, .int .i64 1, .int .i64 376, .int .i64 376, .int .i64 1, .int .i64 (-121)]) ∧ Below w.heap.size w w' := by
  go_enter Try.func32, Try.ntmps32
  go_wp2_with (refine wpList_store_row rfl 49 (.tmp 0) (.tmp 12) rfl w.heap.size #[.int .i64 65, .int .i64 90, .int .i64 1, .int .i64 32, .int .i64 192, .int .i64 214, .int .i64 1, .int .i64 32, .int .i64 216, .int .i64 222, .int .i64 1, .int .i64 32, .int .i64 913, .int .i64 937, .int .i64 1, .int .i64 32, .int .i64 1040, .int .i64 1071, .int .i64 1, .int .i64 32, .int .i64 1024, .int .i64 1039, .int .i64 1, .int .i64 80, .int .i64 256, .int .i64 310, .int .i64 2, .int .i64 1, .int .i64 330, .int .i64 374, .int .i64 2, .int .i64 1, .int .i64 313, .int .i64 327, .int .i64 2, .int .i64 1, .int .i64 377, .int .i64 381, .int .i64 2, .int .i64 1, .int .i64 376, .int .i64 376, .int .i64 1, .int .i64 (-121)] rfl rfl 49 _ (heap_alloc_new _ _) (by kernel_rfl) (by kernel_rfl) (by kernel_rfl) ?_)
  exact bodyPost_ret (results_cell_row rfl _ _ w.heap.size 49 #[.int .i64 65, .int .i64 90, .int .i64 1, .int .i64 32, .int .i64 192, .int .i64 214, .int .i64 1, .int .i64 32, .int .i64 216, .int .i64 222, .int .i64 1, .int .i64 32, .int .i64 913, .int .i64 937, .int .i64 1, .int .i64 32, .int .i64 1040, .int .i64 1071, .int .i64 1, .int .i64 32, .int .i64 1024, .int .i64 1039, .int .i64 1, .int .i64 80, .int .i64 256, .int .i64 310, .int .i64 2, .int .i64 1, .int .i64 330, .int .i64 374, .int .i64 2, .int .i64 1, .int .i64 313, .int .i64 327, .int .i64 2, .int .i64 1, .int .i64 377, .int .i64 381, .int .i64 2, .int .i64 1, .int .i64 376, .int .i64 376, .int .i64 1, .int .i64 (-121)] (0, 0) _ rfl (setRow_heap _ _ _ _ _ _ (heap_alloc_new _ _)) Try.underlying49 rfl (by kernel_rfl)) rfl ⟨rfl, setRow_below ((Below.refl _ _).alloc (Nat.le_refl _) _) (Nat.le_refl _) _⟩

end Go.Proofs.Ytjhmpobnoccobaa.P
