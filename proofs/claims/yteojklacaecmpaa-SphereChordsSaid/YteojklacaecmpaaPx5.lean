-- Written by wip/tools/xprint.py (this session's program, over the kit's print.py) for this seat.
import Derived.Test.YteojklacaecmpaaPx0
import Derived.Test.YteojklacaecmpaaPx2
import Derived.Test.YteojklacaecmpaaPx3
import Derived.Test.YteojklacaecmpaaPx4
namespace Go.Proofs.Yteojklacaecmpaa.P
open Go.RowKit Go.Proofs.YteojklacaecmpaaW.PrintWords Go.Proofs.YteojklacaecmpaaW.PrintLast Go.Proofs.YteojklacaecmpaaW.PrintMore
attribute [local go_sem] max2_int min2_int max_two min_two max_three min_three max_four min_four   -- for this text's walks alone
set_option linter.unusedVariables false
set_option linter.unusedSimpArgs false

/-! ### sphere_Parse: function 15 -/
def sphere_Parse.j0 : Nat → Bool → Int → Int → Int → Bool → Int → Int → Int → Bool → Option (Int × Int × Int)
 | 0, _, _, _, _, _, _, _, _, _ => none
 | k + 1, x33, x139000, x139001, x139002, x139003, x145000, x145001, x145002, x145003 => if x33 = true then (some (0, 0, 20)) else ((sphere_angle_value.f x145000 x145001 x145002 x145003).bind fun t145 => ((sphere_angle_value.f x139000 x139001 x139002 x139003).bind fun t146 => ((sphere_angle_fits.f x145000 x145001 x145002 x145003).bind fun t148 => (if t148 = true then ((sphere_angle_fits.f x139000 x139001 x139002 x139003).bind fun t149 => (if t149 = true then ((sphere_Valid.f t145 t146).bind fun t150 => (if t150 = true then (some (t145, t146, 0)) else (some (0, 0, 2)))) else (some (0, 0, 2)))) else (some (0, 0, 2))))))
def sphere_Parse.f (k : Nat) (a0 : ByteArray) : Option (Int × Int × Int) := (strings_Cut.f a0 (⟨#[32]⟩ : ByteArray)).bind fun bt130 => ((sphere_read.f k bt130.1 (⟨#[78, 83]⟩ : ByteArray)).bind fun bt133 => ((sphere_read.f k bt130.2.1 (⟨#[69, 87]⟩ : ByteArray)).bind fun bt139 => (if bt133.2.2.2.2 = true then (sphere_Parse.j0 k (!bt139.2.2.2.2) bt133.1 bt133.2.1 bt133.2.2.1 bt133.2.2.2.1 bt139.1 bt139.2.1 bt139.2.2.1 bt139.2.2.2.1) else (sphere_Parse.j0 k true bt133.1 bt133.2.1 bt133.2.2.1 bt133.2.2.2.1 bt139.1 bt139.2.1 bt139.2.2.1 bt139.2.2.2.1))))
theorem sphere_Parse.mono_l : ∀ k, (∀ y0 y1 y2 y3 y4 y5 y6 y7 y8, LeO (sphere_Parse.j0 k y0 y1 y2 y3 y4 y5 y6 y7 y8) (sphere_Parse.j0 (k + 1) y0 y1 y2 y3 y4 y5 y6 y7 y8))
 | 0 => fun _ _ _ _ _ _ _ _ _ r h => by simp [sphere_Parse.j0] at h
 | k + 1 => by
  have ih0 := sphere_Parse.mono_l k
  ·intro y0 y1 y2 y3 y4 y5 y6 y7 y8
   unfold sphere_Parse.j0
   repeat' first
   | (with_reducible exact ih0 _ _ _ _ _ _ _ _ _)
   | (with_reducible exact sphere_read.mono _ _ _)
   | (with_reducible exact LeO.refl _)
   | (with_reducible exact LeO.none _)
   | (with_reducible refine LeO.ite ?_ ?_)
   | (with_reducible refine LeO.bind ?_ (fun _ => ?_))
   | exact ih0 _ _ _ _ _ _ _ _ _
   | exact sphere_read.mono _ _ _
   | exact LeO.none _
   | refine LeO.ite ?_ ?_
   | refine LeO.bind ?_ (fun _ => ?_)
theorem sphere_Parse.mono : ∀ a0 k, LeO (sphere_Parse.f k a0) (sphere_Parse.f (k + 1) a0) := by
 intro a0 k
 have ih0 := sphere_Parse.mono_l k
 unfold sphere_Parse.f
 repeat' first
   | (with_reducible exact ih0 _ _ _ _ _ _ _ _ _)
   | (with_reducible exact sphere_read.mono _ _ _)
   | (with_reducible exact LeO.refl _)
   | (with_reducible exact LeO.none _)
   | (with_reducible refine LeO.ite ?_ ?_)
   | (with_reducible refine LeO.bind ?_ (fun _ => ?_))
   | exact ih0 _ _ _ _ _ _ _ _ _
   | exact sphere_read.mono _ _ _
   | exact LeO.none _
   | refine LeO.ite ?_ ?_
   | refine LeO.bind ?_ (fun _ => ?_)
set_option maxHeartbeats 8000000 in
set_option maxRecDepth 100000 in
theorem sphere_Parse.calls (k : Nat) (a0 : ByteArray) (r1 : Int) (r2 : Int) (r3 : Int) (w : World) (h : sphere_Parse.f k a0 = some (r1, r2, r3)) :
  Calls Try.prog 15 #[.string a0] w fun e w' => e = .returned (.tuple #[.agg #[.int .i64 r1, .int .i64 r2], .int .i64 r3]) ∧ Below w.heap.size w w' := by
 have hu23 := Try.underlying23
 have hu39 := Try.underlying39
 have HB := Aside0.mk (Below.refl w.heap.size w)
 have H : ((strings_Cut.f a0 (⟨#[32]⟩ : ByteArray)).bind fun bt130 => ((sphere_read.f k bt130.1 (⟨#[78, 83]⟩ : ByteArray)).bind fun bt133 => ((sphere_read.f k bt130.2.1 (⟨#[69, 87]⟩ : ByteArray)).bind fun bt139 => (if bt133.2.2.2.2 = true then (sphere_Parse.j0 k (!bt139.2.2.2.2) bt133.1 bt133.2.1 bt133.2.2.1 bt133.2.2.2.1 bt139.1 bt139.2.1 bt139.2.2.1 bt139.2.2.2.1) else (sphere_Parse.j0 k true bt133.1 bt133.2.1 bt133.2.2.1 bt133.2.2.2.1 bt139.1 bt139.2.1 bt139.2.2.1 bt139.2.2.2.1))))) = some (r1, r2, r3) := h
 clear h
 replace H := Option.bind_eq_some_iff.mp H
 obtain ⟨⟨t130, t131, t132⟩, A20, H⟩ := H
 replace H : ((sphere_read.f k t130 (⟨#[78, 83]⟩ : ByteArray)).bind fun bt133 => ((sphere_read.f k t131 (⟨#[69, 87]⟩ : ByteArray)).bind fun bt139 => (if bt133.2.2.2.2 = true then (sphere_Parse.j0 k (!bt139.2.2.2.2) bt133.1 bt133.2.1 bt133.2.2.1 bt133.2.2.2.1 bt139.1 bt139.2.1 bt139.2.2.1 bt139.2.2.2.1) else (sphere_Parse.j0 k true bt133.1 bt133.2.1 bt133.2.2.1 bt133.2.2.2.1 bt139.1 bt139.2.1 bt139.2.2.1 bt139.2.2.2.1)))) = some (r1, r2, r3) := H
 have A2 := Aside0.mk A20
 clear A20
 replace H := Option.bind_eq_some_iff.mp H
 obtain ⟨⟨t133, t134, t135, t136, t137⟩, A30, H⟩ := H
 replace H : ((sphere_read.f k t131 (⟨#[69, 87]⟩ : ByteArray)).bind fun bt139 => (if t137 = true then (sphere_Parse.j0 k (!bt139.2.2.2.2) t133 t134 t135 t136 bt139.1 bt139.2.1 bt139.2.2.1 bt139.2.2.2.1) else (sphere_Parse.j0 k true t133 t134 t135 t136 bt139.1 bt139.2.1 bt139.2.2.1 bt139.2.2.2.1))) = some (r1, r2, r3) := H
 have A3 := Aside0.mk A30
 clear A30
 replace H := Option.bind_eq_some_iff.mp H
 obtain ⟨⟨t139, t140, t141, t142, t143⟩, A40, H⟩ := H
 replace H : (if t137 = true then (sphere_Parse.j0 k (!t143) t133 t134 t135 t136 t139 t140 t141 t142) else (sphere_Parse.j0 k true t133 t134 t135 t136 t139 t140 t141 t142)) = some (r1, r2, r3) := H
 have A4 := Aside0.mk A40
 clear A40
 have HC5 := Aside0.mk H
 clear H
 go_enter Try.func15, Try.ntmps15
 go_upto_region 4 with (first | ((with_reducible refine gate_dst (N := 2) rfl ?_); refine box_event ?hg (N := 2) ?hd (cs := #[.int .i64 0, .int .i64 0]) (t := 23) ?hr ?_; (case hd => rfl); (case hg => rfl); (case hr => first | (go_simp; done) | (go_simp; rfl)); intro gb129 hg w6 hbox hb; have n0_ := Aside0.mk (below_step (by with_reducible repeat first | exact HB.out | apply ba | apply bn | apply bd) hb); have n1_ := Aside0.mk (hbox); have n2_ := Aside0.mk ((by rw [hg]; exact (below_size (by with_reducible repeat first | exact HB.out | apply ba | apply bn | apply bd)) : w.heap.size ≤ gb129)); have n3_ := Aside0.mk ((by rw [hg]; exact (below_size (by with_reducible repeat first | exact HB.out | apply ba | apply bn | apply bd)) : w.heap.size ≤ gb129)); clear HB; have HB := n0_; have BK129 := n1_; have GW129 := n2_; have GE129 := n3_; clear n0_ n1_ n2_ n3_; clear hb hbox hg) | ((with_reducible refine gate_callee (f := 21) rfl ?_); refine goesL_ (some 14) rfl rfl Try.func21 (by kernel_rfl) rfl #[.string a0, .string (⟨#[32]⟩ : ByteArray)] rfl (by (try simp only [List.map_toArray, List.map_cons, List.map_nil]); first | done | rfl | (simp only [List.length_drop, List.length_take]; rfl)) ?_; (with_reducible refine (strings_Cut.calls a0 (⟨#[32]⟩ : ByteArray) t130 t131 t132 _ A2.out).mono ?_); rintro e w' ⟨rfl, ⟨nd, rfl⟩⟩; refine ⟨_, rfl, ?_⟩; (try (rw [drewN_self w6]; generalize hq_ : World.drewN w6 _ = w6; have n0_ : Aside0 (w6.heap[gb129]? = some (.cells #[.int .i64 0, .int .i64 0] 23 (0, 0))) := ⟨by rw [← hq_]; exact BK129.out⟩; have n1_ : Aside0 (Below w.heap.size w w6) := ⟨by rw [← hq_]; exact (by with_reducible repeat first | exact HB.out | apply ba | apply bn | apply bd | refine bs ?_ GE129.out)⟩; clear BK129 HB hq_; have BK129 := n0_; have HB := n1_; clear n0_ n1_))) | ((with_reducible refine gate_callee (f := 22) rfl ?_); refine goesL_ (some 20) rfl rfl Try.func22 (by kernel_rfl) rfl #[.string t130, .string (⟨#[78, 83]⟩ : ByteArray)] rfl (by (try simp only [List.map_toArray, List.map_cons, List.map_nil]); first | done | rfl | (simp only [List.length_drop, List.length_take]; rfl)) ?_; (with_reducible refine (sphere_read.calls k t130 (⟨#[78, 83]⟩ : ByteArray) t133 t134 t135 t136 t137 _ A3.out).mono ?_); rintro e w7 ⟨rfl, hb⟩; refine ⟨_, rfl, ?_⟩; have n0_ := Aside0.mk (blk_below (g := gb129) (o := .cells #[.int .i64 0, .int .i64 0] 23 (0, 0)) BK129.out hb); have n1_ := Aside0.mk (below_step (by with_reducible repeat first | exact HB.out | apply ba | apply bn | apply bd | refine bs ?_ GE129.out) hb); clear BK129; clear HB; have BK129 := n0_; have HB := n1_; clear n0_ n1_; (try clear hb); (try clear hb2); (try clear hk); (try clear hi)) | ((with_reducible refine gate_dst (N := 7) rfl ?_); refine box_event ?hg (N := 7) ?hd (cs := #[.int .i64 0, .int .i64 0, .int .i64 0, .bool false]) (t := 39) ?hr ?_; (case hd => rfl); (case hg => rfl); (case hr => first | (go_simp; done) | (go_simp; rfl)); intro gb138 hg w8 hbox hb; have n0_ := Aside0.mk (blk_below (g := gb129) (o := .cells #[.int .i64 0, .int .i64 0] 23 (0, 0)) BK129.out hb); have n1_ := Aside0.mk (below_step (by with_reducible repeat first | exact HB.out | apply ba | apply bn | apply bd | refine bs ?_ GE129.out) hb); have n2_ := Aside0.mk (hbox); have n3_ := Aside0.mk ((by rw [hg]; exact (below_size (by with_reducible repeat first | exact HB.out | apply ba | apply bn | apply bd | refine bs ?_ GE129.out)) : w.heap.size ≤ gb138)); have n4_ := Aside0.mk ((by rw [hg]; exact (below_size (by with_reducible repeat first | exact HB.out | apply ba | apply bn | apply bd | refine bs ?_ GE129.out)) : w.heap.size ≤ gb138)); have n5_ := Aside0.mk ((by rw [hg]; exact Nat.ne_of_lt (blk_lt (g := gb129) (o := .cells #[.int .i64 0, .int .i64 0] 23 (0, 0)) BK129.out) : gb129 ≠ gb138)); have n6_ := Aside0.mk ((by rw [hg]; exact Nat.ne_of_gt (blk_lt (g := gb129) (o := .cells #[.int .i64 0, .int .i64 0] 23 (0, 0)) BK129.out) : gb138 ≠ gb129)); clear BK129; clear HB; have BK129 := n0_; have HB := n1_; have BK138 := n2_; have GW138 := n3_; have GE138 := n4_; have NB129_138 := n5_; have NB138_129 := n6_; clear n0_ n1_ n2_ n3_ n4_ n5_ n6_; clear hb hbox hg; have hnb9 := NB138_129.out; have hnc9 := NB129_138.out; have hcz10_0 : w8.cell? ⟨gb138, 0, none⟩ = some (.int .i64 0) := (blk_cell BK138.out 0).trans rfl; have hcz10_1 : w8.cell? ⟨gb138, 1, none⟩ = some (.int .i64 0) := (blk_cell BK138.out 1).trans rfl; have hcz10_2 : w8.cell? ⟨gb138, 2, none⟩ = some (.int .i64 0) := (blk_cell BK138.out 2).trans rfl; have hcz10_3 : w8.cell? ⟨gb138, 3, none⟩ = some (.bool false) := (blk_cell BK138.out 3).trans rfl; have hfz10_0 := blk_frozen BK138.out 0; have hfz10_1 := blk_frozen BK138.out 1; have hfz10_2 := blk_frozen BK138.out 2; have hfz10_3 := blk_frozen BK138.out 3) | ((with_reducible refine gate_callee (f := 22) rfl ?_); refine goesL_ (some 25) rfl rfl Try.func22 (by kernel_rfl) rfl #[.string t131, .string (⟨#[69, 87]⟩ : ByteArray)] rfl (by (try simp only [List.map_toArray, List.map_cons, List.map_nil]); first | done | rfl | (simp only [List.length_drop, List.length_take]; rfl)) ?_; (with_reducible refine (sphere_read.calls k t131 (⟨#[69, 87]⟩ : ByteArray) t139 t140 t141 t142 t143 _ A4.out).mono ?_); rintro e w11 ⟨rfl, hb⟩; refine ⟨_, rfl, ?_⟩; have n0_ := Aside0.mk (blk_below (g := gb129) (o := .cells #[.int .i64 0, .int .i64 0] 23 (0, 0)) (by (with_reducible repeat first | refine n_ ?_ _ | refine d_ ?_ | refine a_ ?_ _); refine blk_far ?_ NB129_138.out _; (with_reducible repeat first | refine n_ ?_ _ | refine d_ ?_ | refine a_ ?_ _); refine blk_far ?_ NB129_138.out _; (with_reducible repeat first | refine n_ ?_ _ | refine d_ ?_ | refine a_ ?_ _); refine blk_far ?_ NB129_138.out _; (with_reducible repeat first | refine n_ ?_ _ | refine d_ ?_ | refine a_ ?_ _); refine blk_far ?_ NB129_138.out _; (with_reducible repeat first | refine n_ ?_ _ | refine d_ ?_ | refine a_ ?_ _); exact BK129.out) hb); have n1_ := Aside0.mk (blk_below (g := gb138) (o := .cells #[.int .i64 t133, .int .i64 t134, .int .i64 t135, .bool t136] 39 (0, 0)) (by (with_reducible repeat first | refine n_ ?_ _ | refine d_ ?_ | refine a_ ?_ _); refine blk_put (cs := #[.int .i64 t133, .int .i64 t134, .int .i64 t135, .bool false]) ?_ 3 _ rfl; (with_reducible repeat first | refine n_ ?_ _ | refine d_ ?_ | refine a_ ?_ _); refine blk_put (cs := #[.int .i64 t133, .int .i64 t134, .int .i64 0, .bool false]) ?_ 2 _ rfl; (with_reducible repeat first | refine n_ ?_ _ | refine d_ ?_ | refine a_ ?_ _); refine blk_put (cs := #[.int .i64 t133, .int .i64 0, .int .i64 0, .bool false]) ?_ 1 _ rfl; (with_reducible repeat first | refine n_ ?_ _ | refine d_ ?_ | refine a_ ?_ _); refine blk_put (cs := #[.int .i64 0, .int .i64 0, .int .i64 0, .bool false]) ?_ 0 _ rfl; (with_reducible repeat first | refine n_ ?_ _ | refine d_ ?_ | refine a_ ?_ _); exact BK138.out) hb); have n2_ := Aside0.mk (below_step (by with_reducible repeat first | exact HB.out | apply ba | apply bn | apply bd | refine bs ?_ GE129.out | refine bs ?_ GE138.out) hb); clear BK129; clear BK138; clear HB; have BK129 := n0_; have BK138 := n1_; have HB := n2_; clear n0_ n1_ n2_; (try clear hb); (try clear hb2); (try clear hk); (try clear hi)) | ((with_reducible refine gate_dst (N := 9) rfl ?_); refine box_event ?hg (N := 9) ?hd (cs := #[.int .i64 0, .int .i64 0, .int .i64 0, .bool false]) (t := 39) ?hr ?_; (case hd => rfl); (case hg => rfl); (case hr => first | (go_simp; done) | (go_simp; rfl)); intro gb144 hg w12 hbox hb; have n0_ := Aside0.mk (blk_below (g := gb129) (o := .cells #[.int .i64 0, .int .i64 0] 23 (0, 0)) BK129.out hb); have n1_ := Aside0.mk (blk_below (g := gb138) (o := .cells #[.int .i64 t133, .int .i64 t134, .int .i64 t135, .bool t136] 39 (0, 0)) BK138.out hb); have n2_ := Aside0.mk (below_step (by with_reducible repeat first | exact HB.out | apply ba | apply bn | apply bd | refine bs ?_ GE129.out | refine bs ?_ GE138.out) hb); have n3_ := Aside0.mk (hbox); have n4_ := Aside0.mk ((by rw [hg]; exact (below_size (by with_reducible repeat first | exact HB.out | apply ba | apply bn | apply bd | refine bs ?_ GE129.out | refine bs ?_ GE138.out)) : w.heap.size ≤ gb144)); have n5_ := Aside0.mk ((by rw [hg]; exact (below_size (by with_reducible repeat first | exact HB.out | apply ba | apply bn | apply bd | refine bs ?_ GE129.out | refine bs ?_ GE138.out)) : w.heap.size ≤ gb144)); have n6_ := Aside0.mk ((by rw [hg]; exact Nat.ne_of_lt (blk_lt (g := gb129) (o := .cells #[.int .i64 0, .int .i64 0] 23 (0, 0)) BK129.out) : gb129 ≠ gb144)); have n7_ := Aside0.mk ((by rw [hg]; exact Nat.ne_of_gt (blk_lt (g := gb129) (o := .cells #[.int .i64 0, .int .i64 0] 23 (0, 0)) BK129.out) : gb144 ≠ gb129)); have n8_ := Aside0.mk ((by rw [hg]; exact Nat.ne_of_lt (blk_lt (g := gb138) (o := .cells #[.int .i64 t133, .int .i64 t134, .int .i64 t135, .bool t136] 39 (0, 0)) BK138.out) : gb138 ≠ gb144)); have n9_ := Aside0.mk ((by rw [hg]; exact Nat.ne_of_gt (blk_lt (g := gb138) (o := .cells #[.int .i64 t133, .int .i64 t134, .int .i64 t135, .bool t136] 39 (0, 0)) BK138.out) : gb144 ≠ gb138)); clear BK129; clear BK138; clear HB; have BK129 := n0_; have BK138 := n1_; have HB := n2_; have BK144 := n3_; have GW144 := n4_; have GE144 := n5_; have NB129_144 := n6_; have NB144_129 := n7_; have NB138_144 := n8_; have NB144_138 := n9_; clear n0_ n1_ n2_ n3_ n4_ n5_ n6_ n7_ n8_ n9_; clear hb hbox hg; have hnb13 := NB144_129.out; have hnc13 := NB129_144.out; have hnb14 := NB144_138.out; have hnc14 := NB138_144.out; have hcz15_0 : w12.cell? ⟨gb144, 0, none⟩ = some (.int .i64 0) := (blk_cell BK144.out 0).trans rfl; have hcz15_1 : w12.cell? ⟨gb144, 1, none⟩ = some (.int .i64 0) := (blk_cell BK144.out 1).trans rfl; have hcz15_2 : w12.cell? ⟨gb144, 2, none⟩ = some (.int .i64 0) := (blk_cell BK144.out 2).trans rfl; have hcz15_3 : w12.cell? ⟨gb144, 3, none⟩ = some (.bool false) := (blk_cell BK144.out 3).trans rfl; have hfz15_0 := blk_frozen BK144.out 0; have hfz15_1 := blk_frozen BK144.out 1; have hfz15_2 := blk_frozen BK144.out 2; have hfz15_3 := blk_frozen BK144.out 3))
 (try simp only [Act.put, s1, s2, s3])
 go_cut [33] (fun v33 wc => ∃ (kq : Nat) (x33_4 : Bool), v33 = .bool x33_4 ∧ Aside0 (sphere_Parse.j0 kq x33_4 t133 t134 t135 t136 t139 t140 t141 t142 = some (r1, r2, r3)) ∧ Aside0 (kq ≤ k) ∧ Aside0 (wc.heap[gb129]? = some (.cells #[.int .i64 0, .int .i64 0] 23 (0, 0))) ∧ Aside0 (wc.heap[gb138]? = some (.cells #[.int .i64 t133, .int .i64 t134, .int .i64 t135, .bool t136] 39 (0, 0))) ∧ Aside0 (wc.heap[gb144]? = some (.cells #[.int .i64 t139, .int .i64 t140, .int .i64 t141, .bool t142] 39 (0, 0))) ∧ Aside0 (Below w.heap.size w wc))
 case first =>
  have H := HC5.out
  clear HC5
  by_cases c16 : t137 = true
  ·subst c16
   have H1 : (sphere_Parse.j0 k (!t143) t133 t134 t135 t136 t139 t140 t141 t142) = some (r1, r2, r3) := by rw [if_pos rfl] at H; exact H
   clear H
   have H := H1
   clear H1
   have H' := Aside0.mk H
   clear H
   go_wp2
   go_meet
   case rel => exact ⟨_, (!t143), (by first | rfl | (simp; done) | (simp [*]; done)), H', ⟨by first | omega | exact Nat.le_refl _⟩, ⟨by (with_reducible repeat first | refine n_ ?_ _ | refine d_ ?_ | refine a_ ?_ _); refine blk_far ?_ NB129_144.out _; (with_reducible repeat first | refine n_ ?_ _ | refine d_ ?_ | refine a_ ?_ _); refine blk_far ?_ NB129_144.out _; (with_reducible repeat first | refine n_ ?_ _ | refine d_ ?_ | refine a_ ?_ _); refine blk_far ?_ NB129_144.out _; (with_reducible repeat first | refine n_ ?_ _ | refine d_ ?_ | refine a_ ?_ _); refine blk_far ?_ NB129_144.out _; (with_reducible repeat first | refine n_ ?_ _ | refine d_ ?_ | refine a_ ?_ _); exact BK129.out⟩, ⟨by (with_reducible repeat first | refine n_ ?_ _ | refine d_ ?_ | refine a_ ?_ _); refine blk_far ?_ NB138_144.out _; (with_reducible repeat first | refine n_ ?_ _ | refine d_ ?_ | refine a_ ?_ _); refine blk_far ?_ NB138_144.out _; (with_reducible repeat first | refine n_ ?_ _ | refine d_ ?_ | refine a_ ?_ _); refine blk_far ?_ NB138_144.out _; (with_reducible repeat first | refine n_ ?_ _ | refine d_ ?_ | refine a_ ?_ _); refine blk_far ?_ NB138_144.out _; (with_reducible repeat first | refine n_ ?_ _ | refine d_ ?_ | refine a_ ?_ _); exact BK138.out⟩, ⟨by (with_reducible repeat first | refine n_ ?_ _ | refine d_ ?_ | refine a_ ?_ _); refine blk_put (cs := #[.int .i64 t139, .int .i64 t140, .int .i64 t141, .bool false]) ?_ 3 _ rfl; (with_reducible repeat first | refine n_ ?_ _ | refine d_ ?_ | refine a_ ?_ _); refine blk_put (cs := #[.int .i64 t139, .int .i64 t140, .int .i64 0, .bool false]) ?_ 2 _ rfl; (with_reducible repeat first | refine n_ ?_ _ | refine d_ ?_ | refine a_ ?_ _); refine blk_put (cs := #[.int .i64 t139, .int .i64 0, .int .i64 0, .bool false]) ?_ 1 _ rfl; (with_reducible repeat first | refine n_ ?_ _ | refine d_ ?_ | refine a_ ?_ _); refine blk_put (cs := #[.int .i64 0, .int .i64 0, .int .i64 0, .bool false]) ?_ 0 _ rfl; (with_reducible repeat first | refine n_ ?_ _ | refine d_ ?_ | refine a_ ?_ _); exact BK144.out⟩, ⟨by with_reducible repeat first | exact HB.out | apply ba | apply bn | apply bd | refine bs ?_ GE129.out | refine bs ?_ GE138.out | refine bs ?_ GE144.out⟩⟩
  ·replace c16 := Bool.eq_false_iff.mpr c16
   subst c16
   have H1 : (sphere_Parse.j0 k true t133 t134 t135 t136 t139 t140 t141 t142) = some (r1, r2, r3) := by rw [if_neg (show ¬ (false = true) by decide)] at H; exact H
   clear H
   have H := H1
   clear H1
   have H' := Aside0.mk H
   clear H
   go_wp2
   go_meet
   case rel => exact ⟨_, (true), (by first | rfl | (simp; done) | (simp [*]; done)), H', ⟨by first | omega | exact Nat.le_refl _⟩, ⟨by (with_reducible repeat first | refine n_ ?_ _ | refine d_ ?_ | refine a_ ?_ _); refine blk_far ?_ NB129_144.out _; (with_reducible repeat first | refine n_ ?_ _ | refine d_ ?_ | refine a_ ?_ _); refine blk_far ?_ NB129_144.out _; (with_reducible repeat first | refine n_ ?_ _ | refine d_ ?_ | refine a_ ?_ _); refine blk_far ?_ NB129_144.out _; (with_reducible repeat first | refine n_ ?_ _ | refine d_ ?_ | refine a_ ?_ _); refine blk_far ?_ NB129_144.out _; (with_reducible repeat first | refine n_ ?_ _ | refine d_ ?_ | refine a_ ?_ _); exact BK129.out⟩, ⟨by (with_reducible repeat first | refine n_ ?_ _ | refine d_ ?_ | refine a_ ?_ _); refine blk_far ?_ NB138_144.out _; (with_reducible repeat first | refine n_ ?_ _ | refine d_ ?_ | refine a_ ?_ _); refine blk_far ?_ NB138_144.out _; (with_reducible repeat first | refine n_ ?_ _ | refine d_ ?_ | refine a_ ?_ _); refine blk_far ?_ NB138_144.out _; (with_reducible repeat first | refine n_ ?_ _ | refine d_ ?_ | refine a_ ?_ _); refine blk_far ?_ NB138_144.out _; (with_reducible repeat first | refine n_ ?_ _ | refine d_ ?_ | refine a_ ?_ _); exact BK138.out⟩, ⟨by (with_reducible repeat first | refine n_ ?_ _ | refine d_ ?_ | refine a_ ?_ _); refine blk_put (cs := #[.int .i64 t139, .int .i64 t140, .int .i64 t141, .bool false]) ?_ 3 _ rfl; (with_reducible repeat first | refine n_ ?_ _ | refine d_ ?_ | refine a_ ?_ _); refine blk_put (cs := #[.int .i64 t139, .int .i64 t140, .int .i64 0, .bool false]) ?_ 2 _ rfl; (with_reducible repeat first | refine n_ ?_ _ | refine d_ ?_ | refine a_ ?_ _); refine blk_put (cs := #[.int .i64 t139, .int .i64 0, .int .i64 0, .bool false]) ?_ 1 _ rfl; (with_reducible repeat first | refine n_ ?_ _ | refine d_ ?_ | refine a_ ?_ _); refine blk_put (cs := #[.int .i64 0, .int .i64 0, .int .i64 0, .bool false]) ?_ 0 _ rfl; (with_reducible repeat first | refine n_ ?_ _ | refine d_ ?_ | refine a_ ?_ _); exact BK144.out⟩, ⟨by with_reducible repeat first | exact HB.out | apply ba | apply bn | apply bd | refine bs ?_ GE129.out | refine bs ?_ GE138.out | refine bs ?_ GE144.out⟩⟩
 case rest =>
  clear HC5
  try clear c1
  try clear c2
  try clear p2
  try clear c9
  try clear c13
  try clear c14
  try clear c15
  try clear c16
  try clear hcz10_0
  try clear hcz10_1
  try clear hcz10_2
  try clear hcz10_3
  try clear hcz15_0
  try clear hcz15_1
  try clear hcz15_2
  try clear hcz15_3
  try clear hfz10_0
  try clear hfz10_1
  try clear hfz10_2
  try clear hfz10_3
  try clear hfz15_0
  try clear hfz15_1
  try clear hfz15_2
  try clear hfz15_3
  obtain ⟨kq, x33_4, rfl, HA, HJ4, BK129, BK138, BK144, HB⟩ := hcut
  cases kq with
  | zero => exact absurd HA.out (by simp [sphere_Parse.j0])
  | succ kj4 =>
   have H := HA.out
   clear HA
   simp only [sphere_Parse.j0] at H
   by_cases c17 : x33_4 = true
   ·subst c17
    have H1 : (some (0, 0, 20)) = some (r1, r2, r3) := by rw [if_pos rfl] at H; exact H
    clear H
    have H := H1
    clear H1
    simp only [Option.some.injEq, Prod.mk.injEq] at H
    obtain ⟨rfl, rfl, rfl⟩ := H
    have hnb18 := NB129_138.out
    have hnc18 := NB138_129.out
    have hnb19 := NB129_144.out
    have hnc19 := NB144_129.out
    have hcz20_0 : wc.cell? ⟨gb129, 0, none⟩ = some (.int .i64 0) := (blk_cell BK129.out 0).trans rfl
    have hcz20_1 : wc.cell? ⟨gb129, 1, none⟩ = some (.int .i64 0) := (blk_cell BK129.out 1).trans rfl
    have hfz20_0 := blk_frozen BK129.out 0
    have hfz20_1 := blk_frozen BK129.out 1
    go_wp2
    refine bodyPost_ret (results_ct rfl _ _ gb129 23 #[.int .i64 0, .int .i64 0] (0, 0) _ rfl (by (with_reducible repeat first | refine n_ ?_ _ | refine d_ ?_ | refine a_ ?_ _); refine blk_put (cs := #[.int .i64 0, .int .i64 0]) ?_ 1 _ rfl; (with_reducible repeat first | refine n_ ?_ _ | refine d_ ?_ | refine a_ ?_ _); refine blk_put (cs := #[.int .i64 0, .int .i64 0]) ?_ 0 _ rfl; (with_reducible repeat first | refine n_ ?_ _ | refine d_ ?_ | refine a_ ?_ _); exact BK129.out) Try.underlying23 rfl (by kernel_rfl)) rfl ?_
    exact ⟨by first | rfl | (simp [errW_none, errW_some] <;> rfl) | (simp [*, errW_none, errW_some] <;> rfl), by with_reducible repeat first | exact HB.out | apply ba | apply bn | apply bd | refine bs ?_ GE129.out | refine bs ?_ GE138.out | refine bs ?_ GE144.out⟩
   ·replace c17 := Bool.eq_false_iff.mpr c17
    subst c17
    have H1 : ((sphere_angle_value.f t139 t140 t141 t142).bind fun t145 => ((sphere_angle_value.f t133 t134 t135 t136).bind fun t146 => ((sphere_angle_fits.f t139 t140 t141 t142).bind fun t148 => (if t148 = true then ((sphere_angle_fits.f t133 t134 t135 t136).bind fun t149 => (if t149 = true then ((sphere_Valid.f t145 t146).bind fun t150 => (if t150 = true then (some (t145, t146, 0)) else (some (0, 0, 2)))) else (some (0, 0, 2)))) else (some (0, 0, 2)))))) = some (r1, r2, r3) := by rw [if_neg (show ¬ (false = true) by decide)] at H; exact H
    clear H
    have H := H1
    clear H1
    replace H := Option.bind_eq_some_iff.mp H
    obtain ⟨t145, A210, H⟩ := H
    replace H : ((sphere_angle_value.f t133 t134 t135 t136).bind fun t146 => ((sphere_angle_fits.f t139 t140 t141 t142).bind fun t148 => (if t148 = true then ((sphere_angle_fits.f t133 t134 t135 t136).bind fun t149 => (if t149 = true then ((sphere_Valid.f t145 t146).bind fun t150 => (if t150 = true then (some (t145, t146, 0)) else (some (0, 0, 2)))) else (some (0, 0, 2)))) else (some (0, 0, 2))))) = some (r1, r2, r3) := H
    have A21 := Aside0.mk A210
    clear A210
    replace H := Option.bind_eq_some_iff.mp H
    obtain ⟨t146, A220, H⟩ := H
    replace H : ((sphere_angle_fits.f t139 t140 t141 t142).bind fun t148 => (if t148 = true then ((sphere_angle_fits.f t133 t134 t135 t136).bind fun t149 => (if t149 = true then ((sphere_Valid.f t145 t146).bind fun t150 => (if t150 = true then (some (t145, t146, 0)) else (some (0, 0, 2)))) else (some (0, 0, 2)))) else (some (0, 0, 2)))) = some (r1, r2, r3) := H
    have A22 := Aside0.mk A220
    clear A220
    replace H := Option.bind_eq_some_iff.mp H
    obtain ⟨t148, A230, H⟩ := H
    replace H : (if t148 = true then ((sphere_angle_fits.f t133 t134 t135 t136).bind fun t149 => (if t149 = true then ((sphere_Valid.f t145 t146).bind fun t150 => (if t150 = true then (some (t145, t146, 0)) else (some (0, 0, 2)))) else (some (0, 0, 2)))) else (some (0, 0, 2))) = some (r1, r2, r3) := H
    have A23 := Aside0.mk A230
    clear A230
    by_cases c24 : t148 = true
    ·subst c24
     have H1 : ((sphere_angle_fits.f t133 t134 t135 t136).bind fun t149 => (if t149 = true then ((sphere_Valid.f t145 t146).bind fun t150 => (if t150 = true then (some (t145, t146, 0)) else (some (0, 0, 2)))) else (some (0, 0, 2)))) = some (r1, r2, r3) := by rw [if_pos rfl] at H; exact H
     clear H
     have H := H1
     clear H1
     replace H := Option.bind_eq_some_iff.mp H
     obtain ⟨t149, A250, H⟩ := H
     replace H : (if t149 = true then ((sphere_Valid.f t145 t146).bind fun t150 => (if t150 = true then (some (t145, t146, 0)) else (some (0, 0, 2)))) else (some (0, 0, 2))) = some (r1, r2, r3) := H
     have A25 := Aside0.mk A250
     clear A250
     by_cases c26 : t149 = true
     ·subst c26
      have H1 : ((sphere_Valid.f t145 t146).bind fun t150 => (if t150 = true then (some (t145, t146, 0)) else (some (0, 0, 2)))) = some (r1, r2, r3) := by rw [if_pos rfl] at H; exact H
      clear H
      have H := H1
      clear H1
      replace H := Option.bind_eq_some_iff.mp H
      obtain ⟨t150, A270, H⟩ := H
      replace H : (if t150 = true then (some (t145, t146, 0)) else (some (0, 0, 2))) = some (r1, r2, r3) := H
      have A27 := Aside0.mk A270
      clear A270
      by_cases c28 : t150 = true
      ·subst c28
       have H1 : (some (t145, t146, 0)) = some (r1, r2, r3) := by rw [if_pos rfl] at H; exact H
       clear H
       have H := H1
       clear H1
       simp only [Option.some.injEq, Prod.mk.injEq] at H
       obtain ⟨rfl, rfl, rfl⟩ := H
       try go_wp2
       have n0_ := Aside0.mk (blk_drew BK129.out)
       have n1_ := Aside0.mk (blk_drew BK138.out)
       have n2_ := Aside0.mk (blk_drew BK144.out)
       have n3_ := Aside0.mk (below_drew1 HB.out)
       clear BK129
       clear BK138
       clear BK144
       clear HB
       have BK129 := n0_
       have BK138 := n1_
       have BK144 := n2_
       have HB := n3_
       clear n0_ n1_ n2_ n3_
       refine start_ (n := 7) (S := fun w' => w'.cell? ⟨gb144, 0, none⟩ = some (.int .i64 t139) ∧ w'.cell? ⟨gb144, 1, none⟩ = some (.int .i64 t140) ∧ w'.cell? ⟨gb144, 2, none⟩ = some (.int .i64 t141) ∧ w'.cell? ⟨gb144, 3, none⟩ = some (.bool t142) ∧ w'.cell? ⟨gb138, 0, none⟩ = some (.int .i64 t133) ∧ w'.cell? ⟨gb138, 1, none⟩ = some (.int .i64 t134) ∧ w'.cell? ⟨gb138, 2, none⟩ = some (.int .i64 t135) ∧ w'.cell? ⟨gb138, 3, none⟩ = some (.bool t136)) (ds := []) #[false, false, false, false, false, false, false] (by kernel_rfl) rfl rfl ⟨(blk_cell BK144.out 0).trans rfl, (blk_cell BK144.out 1).trans rfl, (blk_cell BK144.out 2).trans rfl, (blk_cell BK144.out 3).trans rfl, (blk_cell BK138.out 0).trans rfl, (blk_cell BK138.out 1).trans rfl, (blk_cell BK138.out 2).trans rfl, (blk_cell BK138.out 3).trans rfl⟩ (fun hHeld => ?_)
       generalize wc.drew = w29 at BK129 BK138 BK144 HB hHeld ⊢
       refine take_ (i := 0) (N := some 35) (v := ?_) (a' := ?_) #[true, false, false, false, false, false, false] rfl rfl (by kernel_rfl) (fun _ _ _ h => h) (Or.inl ⟨by rfl, ?_⟩) hHeld ?_ ?_
       rotate_left
       ·rintro w' ⟨s0, s1, s2, s3, s4, s5, s6, s7⟩
        go_simp
        with_reducible rfl
       rotate_left
       ·simp only [Act.put, s1, s2, s3, i64_w, i32_w]
        rfl
       refine take_ (i := 2) (N := some 37) (v := ?_) (a' := ?_) #[true, false, true, false, false, false, false] rfl rfl (by kernel_rfl) (fun _ _ _ h => h) (Or.inl ⟨by rfl, ?_⟩) hHeld ?_ ?_
       rotate_left
       ·rintro w' ⟨s0, s1, s2, s3, s4, s5, s6, s7⟩
        go_simp
        with_reducible rfl
       rotate_left
       ·simp only [Act.put, s1, s2, s3, i64_w, i32_w]
        rfl
       refine join_ (σ := Nat) 1 #[true, true, true, true, true, true, false] (fun s_ => [(36, .int .i64 t145), (38, .int .i64 t146), (11, .pointer (some ⟨s_, 0, none⟩)), (39, .agg #[.int .i64 t145, .int .i64 t146])]) (fun s_ w' => (w'.cell? ⟨gb144, 0, none⟩ = some (.int .i64 t139) ∧ w'.cell? ⟨gb144, 1, none⟩ = some (.int .i64 t140) ∧ w'.cell? ⟨gb144, 2, none⟩ = some (.int .i64 t141) ∧ w'.cell? ⟨gb144, 3, none⟩ = some (.bool t142) ∧ w'.cell? ⟨gb138, 0, none⟩ = some (.int .i64 t133) ∧ w'.cell? ⟨gb138, 1, none⟩ = some (.int .i64 t134) ∧ w'.cell? ⟨gb138, 2, none⟩ = some (.int .i64 t135) ∧ w'.cell? ⟨gb138, 3, none⟩ = some (.bool t136)) ∧ (w'.heap[gb129]? = some (.cells #[.int .i64 0, .int .i64 0] 23 (0, 0))) ∧ (w'.heap[gb138]? = some (.cells #[.int .i64 t133, .int .i64 t134, .int .i64 t135, .bool t136] 39 (0, 0))) ∧ (w'.heap[gb144]? = some (.cells #[.int .i64 t139, .int .i64 t140, .int .i64 t141, .bool t142] 39 (0, 0))) ∧ (w'.heap[s_]? = some (.cells #[.int .i64 0, .int .i64 0] 23 (0, 0))) ∧ (w.heap.size ≤ s_) ∧ (w.heap.size ≤ s_) ∧ (gb129 ≠ s_) ∧ (s_ ≠ gb129) ∧ (gb138 ≠ s_) ∧ (s_ ≠ gb138) ∧ (gb144 ≠ s_) ∧ (s_ ≠ gb144) ∧ (Below w.heap.size w w')) ?_ ?_
       rotate_left
       ·intro hCont
        refine two_ (i := 1) (j := 5) (Ni := some 36) (Nj := some 11) #[true, true, true, false, false, false, false] #[true, false, true, false, false, true, false] rfl rfl rfl rfl (by kernel_rfl) (by decide) (by decide) (fun K hK => ?_) (fun K hK => ?_)
        ·skip
         refine goes_ Try.func23 (by kernel_rfl) rfl #[.agg #[.int .i64 t139, .int .i64 t140, .int .i64 t141, .bool t142]] (by rfl) rfl rfl (by (try simp only [List.map_toArray, List.map_cons, List.map_nil]); first | done | rfl | (simp only [List.length_drop, List.length_take]; rfl)) ?_
         with_reducible refine (sphere_angle_value.calls t139 t140 t141 t142 t145 _ A21.out).mono ?_
         rintro e w30 ⟨rfl, hb⟩
         refine ⟨_, rfl, ?_⟩
         have n0_ := Aside0.mk (blk_below (g := gb129) (o := .cells #[.int .i64 0, .int .i64 0] 23 (0, 0)) BK129.out hb)
         have n1_ := Aside0.mk (blk_below (g := gb138) (o := .cells #[.int .i64 t133, .int .i64 t134, .int .i64 t135, .bool t136] 39 (0, 0)) BK138.out hb)
         have n2_ := Aside0.mk (blk_below (g := gb144) (o := .cells #[.int .i64 t139, .int .i64 t140, .int .i64 t141, .bool t142] 39 (0, 0)) BK144.out hb)
         have n3_ := Aside0.mk (below_step (by with_reducible repeat first | exact HB.out | apply ba | apply bn | apply bd | refine bs ?_ GE129.out | refine bs ?_ GE138.out | refine bs ?_ GE144.out) hb)
         clear BK129
         clear BK138
         clear BK144
         clear HB
         have BK129 := n0_
         have BK138 := n1_
         have BK144 := n2_
         have HB := n3_
         clear n0_ n1_ n2_ n3_
         (try clear hb)
         (try clear hb2)
         (try clear hk)
         (try clear hi)
         refine hK.out _ _ ⟨(blk_cell BK144.out 0).trans rfl, (blk_cell BK144.out 1).trans rfl, (blk_cell BK144.out 2).trans rfl, (blk_cell BK144.out 3).trans rfl, (blk_cell BK138.out 0).trans rfl, (blk_cell BK138.out 1).trans rfl, (blk_cell BK138.out 2).trans rfl, (blk_cell BK138.out 3).trans rfl⟩ (fun hHeld => ?_)
         clear hK K
         refine norm_ (a' := ?_) ?_ ?_
         rotate_left
         ·show Act.put _ (some 36) _ = _
          simp only [Act.put, s1, s2, s3, i64_w, i32_w]
          rfl
         refine two_ (i := 3) (j := 5) (Ni := some 38) (Nj := some 11) #[true, true, true, true, false, false, false] #[true, true, true, false, false, true, false] rfl rfl rfl rfl (by kernel_rfl) (by decide) (by decide) (fun K hK => ?_) (fun K hK => ?_)
         ·skip
          refine goes_ Try.func23 (by kernel_rfl) rfl #[.agg #[.int .i64 t133, .int .i64 t134, .int .i64 t135, .bool t136]] (by rfl) rfl rfl (by (try simp only [List.map_toArray, List.map_cons, List.map_nil]); first | done | rfl | (simp only [List.length_drop, List.length_take]; rfl)) ?_
          with_reducible refine (sphere_angle_value.calls t133 t134 t135 t136 t146 _ A22.out).mono ?_
          rintro e w31 ⟨rfl, hb⟩
          refine ⟨_, rfl, ?_⟩
          have n0_ := Aside0.mk (blk_below (g := gb129) (o := .cells #[.int .i64 0, .int .i64 0] 23 (0, 0)) BK129.out hb)
          have n1_ := Aside0.mk (blk_below (g := gb138) (o := .cells #[.int .i64 t133, .int .i64 t134, .int .i64 t135, .bool t136] 39 (0, 0)) BK138.out hb)
          have n2_ := Aside0.mk (blk_below (g := gb144) (o := .cells #[.int .i64 t139, .int .i64 t140, .int .i64 t141, .bool t142] 39 (0, 0)) BK144.out hb)
          have n3_ := Aside0.mk (below_step (by with_reducible repeat first | exact HB.out | apply ba | apply bn | apply bd | refine bs ?_ GE129.out | refine bs ?_ GE138.out | refine bs ?_ GE144.out) hb)
          clear BK129
          clear BK138
          clear BK144
          clear HB
          have BK129 := n0_
          have BK138 := n1_
          have BK144 := n2_
          have HB := n3_
          clear n0_ n1_ n2_ n3_
          (try clear hb)
          (try clear hb2)
          (try clear hk)
          (try clear hi)
          refine hK.out _ _ ⟨(blk_cell BK144.out 0).trans rfl, (blk_cell BK144.out 1).trans rfl, (blk_cell BK144.out 2).trans rfl, (blk_cell BK144.out 3).trans rfl, (blk_cell BK138.out 0).trans rfl, (blk_cell BK138.out 1).trans rfl, (blk_cell BK138.out 2).trans rfl, (blk_cell BK138.out 3).trans rfl⟩ (fun hHeld => ?_)
          clear hK K
          refine norm_ (a' := ?_) ?_ ?_
          rotate_left
          ·show Act.put _ (some 38) _ = _
           simp only [Act.put, s1, s2, s3, i64_w, i32_w]
           rfl
          refine pure_ (i := 4) (N := some 39) (v := ?_) (a' := ?_) #[true, true, true, true, true, false, false] rfl rfl (by kernel_rfl) (fun _ _ _ h => h) (Or.inl ⟨by rfl, ?_⟩) ?_ ?_
          rotate_left
          ·intro w'
           go_simp
           with_reducible rfl
          rotate_left
          ·simp only [Act.put, s1, s2, s3, i64_w, i32_w]
           rfl
          refine one_ (i := 5) (N := some 11) #[true, true, true, true, true, true, false] rfl rfl (by kernel_rfl) (by decide) (fun K hK => ?_)
          refine box_step ?hg (N := 11) ?hd (cs := #[.int .i64 0, .int .i64 0]) (t := 23) ?hr ?_; (case hd => rfl); (case hg => rfl); (case hr => first | (go_simp; done) | (go_simp; rfl))
          intro gb147 hg w32 hbox hb
          have n0_ := Aside0.mk (blk_below (g := gb129) (o := .cells #[.int .i64 0, .int .i64 0] 23 (0, 0)) BK129.out hb)
          have n1_ := Aside0.mk (blk_below (g := gb138) (o := .cells #[.int .i64 t133, .int .i64 t134, .int .i64 t135, .bool t136] 39 (0, 0)) BK138.out hb)
          have n2_ := Aside0.mk (blk_below (g := gb144) (o := .cells #[.int .i64 t139, .int .i64 t140, .int .i64 t141, .bool t142] 39 (0, 0)) BK144.out hb)
          have n3_ := Aside0.mk (below_step (by with_reducible repeat first | exact HB.out | apply ba | apply bn | apply bd | refine bs ?_ GE129.out | refine bs ?_ GE138.out | refine bs ?_ GE144.out) hb)
          have n4_ := Aside0.mk (hbox)
          have n5_ := Aside0.mk ((by rw [hg]; exact (below_size (by with_reducible repeat first | exact HB.out | apply ba | apply bn | apply bd | refine bs ?_ GE129.out | refine bs ?_ GE138.out | refine bs ?_ GE144.out)) : w.heap.size ≤ gb147))
          have n6_ := Aside0.mk ((by rw [hg]; exact (below_size (by with_reducible repeat first | exact HB.out | apply ba | apply bn | apply bd | refine bs ?_ GE129.out | refine bs ?_ GE138.out | refine bs ?_ GE144.out)) : w.heap.size ≤ gb147))
          have n7_ := Aside0.mk ((by rw [hg]; exact Nat.ne_of_lt (blk_lt (g := gb129) (o := .cells #[.int .i64 0, .int .i64 0] 23 (0, 0)) BK129.out) : gb129 ≠ gb147))
          have n8_ := Aside0.mk ((by rw [hg]; exact Nat.ne_of_gt (blk_lt (g := gb129) (o := .cells #[.int .i64 0, .int .i64 0] 23 (0, 0)) BK129.out) : gb147 ≠ gb129))
          have n9_ := Aside0.mk ((by rw [hg]; exact Nat.ne_of_lt (blk_lt (g := gb138) (o := .cells #[.int .i64 t133, .int .i64 t134, .int .i64 t135, .bool t136] 39 (0, 0)) BK138.out) : gb138 ≠ gb147))
          have n10_ := Aside0.mk ((by rw [hg]; exact Nat.ne_of_gt (blk_lt (g := gb138) (o := .cells #[.int .i64 t133, .int .i64 t134, .int .i64 t135, .bool t136] 39 (0, 0)) BK138.out) : gb147 ≠ gb138))
          have n11_ := Aside0.mk ((by rw [hg]; exact Nat.ne_of_lt (blk_lt (g := gb144) (o := .cells #[.int .i64 t139, .int .i64 t140, .int .i64 t141, .bool t142] 39 (0, 0)) BK144.out) : gb144 ≠ gb147))
          have n12_ := Aside0.mk ((by rw [hg]; exact Nat.ne_of_gt (blk_lt (g := gb144) (o := .cells #[.int .i64 t139, .int .i64 t140, .int .i64 t141, .bool t142] 39 (0, 0)) BK144.out) : gb147 ≠ gb144))
          clear BK129
          clear BK138
          clear BK144
          clear HB
          have BK129 := n0_
          have BK138 := n1_
          have BK144 := n2_
          have HB := n3_
          have BK147 := n4_
          have GW147 := n5_
          have GE147 := n6_
          have NB129_147 := n7_
          have NB147_129 := n8_
          have NB138_147 := n9_
          have NB147_138 := n10_
          have NB144_147 := n11_
          have NB147_144 := n12_
          clear n0_ n1_ n2_ n3_ n4_ n5_ n6_ n7_ n8_ n9_ n10_ n11_ n12_
          clear hb hbox hg
          refine hK.out _ _ ⟨(blk_cell BK144.out 0).trans rfl, (blk_cell BK144.out 1).trans rfl, (blk_cell BK144.out 2).trans rfl, (blk_cell BK144.out 3).trans rfl, (blk_cell BK138.out 0).trans rfl, (blk_cell BK138.out 1).trans rfl, (blk_cell BK138.out 2).trans rfl, (blk_cell BK138.out 3).trans rfl⟩ (fun hHeld => ?_)
          clear hK K
          refine norm_ (a' := ?_) ?_ ?_
          rotate_left
          ·show Act.put _ (some 11) _ = _
           simp only [Act.put, s1, s2, s3, i64_w, i32_w]
           rfl
          exact norm_ (by simp only [putAll, Act.put, s1, s2, s3]) (hCont (gb147) _ ⟨hHeld, BK129.out, BK138.out, BK144.out, BK147.out, GW147.out, GE147.out, NB129_147.out, NB147_129.out, NB138_147.out, NB147_138.out, NB144_147.out, NB147_144.out, (by with_reducible repeat first | exact HB.out | apply ba | apply bn | apply bd | refine bs ?_ GE129.out | refine bs ?_ GE138.out | refine bs ?_ GE144.out | refine bs ?_ GE147.out)⟩)
         ·skip
          refine box_step ?hg (N := 11) ?hd (cs := #[.int .i64 0, .int .i64 0]) (t := 23) ?hr ?_; (case hd => rfl); (case hg => rfl); (case hr => first | (go_simp; done) | (go_simp; rfl))
          intro gb147 hg w31 hbox hb
          have n0_ := Aside0.mk (blk_below (g := gb129) (o := .cells #[.int .i64 0, .int .i64 0] 23 (0, 0)) BK129.out hb)
          have n1_ := Aside0.mk (blk_below (g := gb138) (o := .cells #[.int .i64 t133, .int .i64 t134, .int .i64 t135, .bool t136] 39 (0, 0)) BK138.out hb)
          have n2_ := Aside0.mk (blk_below (g := gb144) (o := .cells #[.int .i64 t139, .int .i64 t140, .int .i64 t141, .bool t142] 39 (0, 0)) BK144.out hb)
          have n3_ := Aside0.mk (below_step (by with_reducible repeat first | exact HB.out | apply ba | apply bn | apply bd | refine bs ?_ GE129.out | refine bs ?_ GE138.out | refine bs ?_ GE144.out) hb)
          have n4_ := Aside0.mk (hbox)
          have n5_ := Aside0.mk ((by rw [hg]; exact (below_size (by with_reducible repeat first | exact HB.out | apply ba | apply bn | apply bd | refine bs ?_ GE129.out | refine bs ?_ GE138.out | refine bs ?_ GE144.out)) : w.heap.size ≤ gb147))
          have n6_ := Aside0.mk ((by rw [hg]; exact (below_size (by with_reducible repeat first | exact HB.out | apply ba | apply bn | apply bd | refine bs ?_ GE129.out | refine bs ?_ GE138.out | refine bs ?_ GE144.out)) : w.heap.size ≤ gb147))
          have n7_ := Aside0.mk ((by rw [hg]; exact Nat.ne_of_lt (blk_lt (g := gb129) (o := .cells #[.int .i64 0, .int .i64 0] 23 (0, 0)) BK129.out) : gb129 ≠ gb147))
          have n8_ := Aside0.mk ((by rw [hg]; exact Nat.ne_of_gt (blk_lt (g := gb129) (o := .cells #[.int .i64 0, .int .i64 0] 23 (0, 0)) BK129.out) : gb147 ≠ gb129))
          have n9_ := Aside0.mk ((by rw [hg]; exact Nat.ne_of_lt (blk_lt (g := gb138) (o := .cells #[.int .i64 t133, .int .i64 t134, .int .i64 t135, .bool t136] 39 (0, 0)) BK138.out) : gb138 ≠ gb147))
          have n10_ := Aside0.mk ((by rw [hg]; exact Nat.ne_of_gt (blk_lt (g := gb138) (o := .cells #[.int .i64 t133, .int .i64 t134, .int .i64 t135, .bool t136] 39 (0, 0)) BK138.out) : gb147 ≠ gb138))
          have n11_ := Aside0.mk ((by rw [hg]; exact Nat.ne_of_lt (blk_lt (g := gb144) (o := .cells #[.int .i64 t139, .int .i64 t140, .int .i64 t141, .bool t142] 39 (0, 0)) BK144.out) : gb144 ≠ gb147))
          have n12_ := Aside0.mk ((by rw [hg]; exact Nat.ne_of_gt (blk_lt (g := gb144) (o := .cells #[.int .i64 t139, .int .i64 t140, .int .i64 t141, .bool t142] 39 (0, 0)) BK144.out) : gb147 ≠ gb144))
          clear BK129
          clear BK138
          clear BK144
          clear HB
          have BK129 := n0_
          have BK138 := n1_
          have BK144 := n2_
          have HB := n3_
          have BK147 := n4_
          have GW147 := n5_
          have GE147 := n6_
          have NB129_147 := n7_
          have NB147_129 := n8_
          have NB138_147 := n9_
          have NB147_138 := n10_
          have NB144_147 := n11_
          have NB147_144 := n12_
          clear n0_ n1_ n2_ n3_ n4_ n5_ n6_ n7_ n8_ n9_ n10_ n11_ n12_
          clear hb hbox hg
          refine hK.out _ _ ⟨(blk_cell BK144.out 0).trans rfl, (blk_cell BK144.out 1).trans rfl, (blk_cell BK144.out 2).trans rfl, (blk_cell BK144.out 3).trans rfl, (blk_cell BK138.out 0).trans rfl, (blk_cell BK138.out 1).trans rfl, (blk_cell BK138.out 2).trans rfl, (blk_cell BK138.out 3).trans rfl⟩ (fun hHeld => ?_)
          clear hK K
          refine norm_ (a' := ?_) ?_ ?_
          rotate_left
          ·show Act.put _ (some 11) _ = _
           simp only [Act.put, s1, s2, s3, i64_w, i32_w]
           rfl
          refine one_ (i := 3) (N := some 38) #[true, true, true, true, false, true, false] rfl rfl (by kernel_rfl) (by decide) (fun K hK => ?_)
          refine goes_ Try.func23 (by kernel_rfl) rfl #[.agg #[.int .i64 t133, .int .i64 t134, .int .i64 t135, .bool t136]] (by rfl) rfl rfl (by (try simp only [List.map_toArray, List.map_cons, List.map_nil]); first | done | rfl | (simp only [List.length_drop, List.length_take]; rfl)) ?_
          with_reducible refine (sphere_angle_value.calls t133 t134 t135 t136 t146 _ A22.out).mono ?_
          rintro e w32 ⟨rfl, hb⟩
          refine ⟨_, rfl, ?_⟩
          have n0_ := Aside0.mk (blk_below (g := gb129) (o := .cells #[.int .i64 0, .int .i64 0] 23 (0, 0)) BK129.out hb)
          have n1_ := Aside0.mk (blk_below (g := gb138) (o := .cells #[.int .i64 t133, .int .i64 t134, .int .i64 t135, .bool t136] 39 (0, 0)) BK138.out hb)
          have n2_ := Aside0.mk (blk_below (g := gb144) (o := .cells #[.int .i64 t139, .int .i64 t140, .int .i64 t141, .bool t142] 39 (0, 0)) BK144.out hb)
          have n3_ := Aside0.mk (blk_below (g := gb147) (o := .cells #[.int .i64 0, .int .i64 0] 23 (0, 0)) BK147.out hb)
          have n4_ := Aside0.mk (below_step (by with_reducible repeat first | exact HB.out | apply ba | apply bn | apply bd | refine bs ?_ GE129.out | refine bs ?_ GE138.out | refine bs ?_ GE144.out | refine bs ?_ GE147.out) hb)
          clear BK129
          clear BK138
          clear BK144
          clear BK147
          clear HB
          have BK129 := n0_
          have BK138 := n1_
          have BK144 := n2_
          have BK147 := n3_
          have HB := n4_
          clear n0_ n1_ n2_ n3_ n4_
          (try clear hb)
          (try clear hb2)
          (try clear hk)
          (try clear hi)
          refine hK.out _ _ ⟨(blk_cell BK144.out 0).trans rfl, (blk_cell BK144.out 1).trans rfl, (blk_cell BK144.out 2).trans rfl, (blk_cell BK144.out 3).trans rfl, (blk_cell BK138.out 0).trans rfl, (blk_cell BK138.out 1).trans rfl, (blk_cell BK138.out 2).trans rfl, (blk_cell BK138.out 3).trans rfl⟩ (fun hHeld => ?_)
          clear hK K
          refine norm_ (a' := ?_) ?_ ?_
          rotate_left
          ·show Act.put _ (some 38) _ = _
           simp only [Act.put, s1, s2, s3, i64_w, i32_w]
           rfl
          refine pure_ (i := 4) (N := some 39) (v := ?_) (a' := ?_) #[true, true, true, true, true, true, false] rfl rfl (by kernel_rfl) (fun _ _ _ h => h) (Or.inl ⟨by rfl, ?_⟩) ?_ ?_
          rotate_left
          ·intro w'
           go_simp
           with_reducible rfl
          rotate_left
          ·simp only [Act.put, s1, s2, s3, i64_w, i32_w]
           rfl
          exact norm_ (by simp only [putAll, Act.put, s1, s2, s3]) (hCont (gb147) _ ⟨hHeld, BK129.out, BK138.out, BK144.out, BK147.out, GW147.out, GE147.out, NB129_147.out, NB147_129.out, NB138_147.out, NB147_138.out, NB144_147.out, NB147_144.out, (by with_reducible repeat first | exact HB.out | apply ba | apply bn | apply bd | refine bs ?_ GE129.out | refine bs ?_ GE138.out | refine bs ?_ GE144.out | refine bs ?_ GE147.out)⟩)
        ·skip
         refine box_step ?hg (N := 11) ?hd (cs := #[.int .i64 0, .int .i64 0]) (t := 23) ?hr ?_; (case hd => rfl); (case hg => rfl); (case hr => first | (go_simp; done) | (go_simp; rfl))
         intro gb147 hg w30 hbox hb
         have n0_ := Aside0.mk (blk_below (g := gb129) (o := .cells #[.int .i64 0, .int .i64 0] 23 (0, 0)) BK129.out hb)
         have n1_ := Aside0.mk (blk_below (g := gb138) (o := .cells #[.int .i64 t133, .int .i64 t134, .int .i64 t135, .bool t136] 39 (0, 0)) BK138.out hb)
         have n2_ := Aside0.mk (blk_below (g := gb144) (o := .cells #[.int .i64 t139, .int .i64 t140, .int .i64 t141, .bool t142] 39 (0, 0)) BK144.out hb)
         have n3_ := Aside0.mk (below_step (by with_reducible repeat first | exact HB.out | apply ba | apply bn | apply bd | refine bs ?_ GE129.out | refine bs ?_ GE138.out | refine bs ?_ GE144.out) hb)
         have n4_ := Aside0.mk (hbox)
         have n5_ := Aside0.mk ((by rw [hg]; exact (below_size (by with_reducible repeat first | exact HB.out | apply ba | apply bn | apply bd | refine bs ?_ GE129.out | refine bs ?_ GE138.out | refine bs ?_ GE144.out)) : w.heap.size ≤ gb147))
         have n6_ := Aside0.mk ((by rw [hg]; exact (below_size (by with_reducible repeat first | exact HB.out | apply ba | apply bn | apply bd | refine bs ?_ GE129.out | refine bs ?_ GE138.out | refine bs ?_ GE144.out)) : w.heap.size ≤ gb147))
         have n7_ := Aside0.mk ((by rw [hg]; exact Nat.ne_of_lt (blk_lt (g := gb129) (o := .cells #[.int .i64 0, .int .i64 0] 23 (0, 0)) BK129.out) : gb129 ≠ gb147))
         have n8_ := Aside0.mk ((by rw [hg]; exact Nat.ne_of_gt (blk_lt (g := gb129) (o := .cells #[.int .i64 0, .int .i64 0] 23 (0, 0)) BK129.out) : gb147 ≠ gb129))
         have n9_ := Aside0.mk ((by rw [hg]; exact Nat.ne_of_lt (blk_lt (g := gb138) (o := .cells #[.int .i64 t133, .int .i64 t134, .int .i64 t135, .bool t136] 39 (0, 0)) BK138.out) : gb138 ≠ gb147))
         have n10_ := Aside0.mk ((by rw [hg]; exact Nat.ne_of_gt (blk_lt (g := gb138) (o := .cells #[.int .i64 t133, .int .i64 t134, .int .i64 t135, .bool t136] 39 (0, 0)) BK138.out) : gb147 ≠ gb138))
         have n11_ := Aside0.mk ((by rw [hg]; exact Nat.ne_of_lt (blk_lt (g := gb144) (o := .cells #[.int .i64 t139, .int .i64 t140, .int .i64 t141, .bool t142] 39 (0, 0)) BK144.out) : gb144 ≠ gb147))
         have n12_ := Aside0.mk ((by rw [hg]; exact Nat.ne_of_gt (blk_lt (g := gb144) (o := .cells #[.int .i64 t139, .int .i64 t140, .int .i64 t141, .bool t142] 39 (0, 0)) BK144.out) : gb147 ≠ gb144))
         clear BK129
         clear BK138
         clear BK144
         clear HB
         have BK129 := n0_
         have BK138 := n1_
         have BK144 := n2_
         have HB := n3_
         have BK147 := n4_
         have GW147 := n5_
         have GE147 := n6_
         have NB129_147 := n7_
         have NB147_129 := n8_
         have NB138_147 := n9_
         have NB147_138 := n10_
         have NB144_147 := n11_
         have NB147_144 := n12_
         clear n0_ n1_ n2_ n3_ n4_ n5_ n6_ n7_ n8_ n9_ n10_ n11_ n12_
         clear hb hbox hg
         refine hK.out _ _ ⟨(blk_cell BK144.out 0).trans rfl, (blk_cell BK144.out 1).trans rfl, (blk_cell BK144.out 2).trans rfl, (blk_cell BK144.out 3).trans rfl, (blk_cell BK138.out 0).trans rfl, (blk_cell BK138.out 1).trans rfl, (blk_cell BK138.out 2).trans rfl, (blk_cell BK138.out 3).trans rfl⟩ (fun hHeld => ?_)
         clear hK K
         refine norm_ (a' := ?_) ?_ ?_
         rotate_left
         ·show Act.put _ (some 11) _ = _
          simp only [Act.put, s1, s2, s3, i64_w, i32_w]
          rfl
         refine one_ (i := 1) (N := some 36) #[true, true, true, false, false, true, false] rfl rfl (by kernel_rfl) (by decide) (fun K hK => ?_)
         refine goes_ Try.func23 (by kernel_rfl) rfl #[.agg #[.int .i64 t139, .int .i64 t140, .int .i64 t141, .bool t142]] (by rfl) rfl rfl (by (try simp only [List.map_toArray, List.map_cons, List.map_nil]); first | done | rfl | (simp only [List.length_drop, List.length_take]; rfl)) ?_
         with_reducible refine (sphere_angle_value.calls t139 t140 t141 t142 t145 _ A21.out).mono ?_
         rintro e w31 ⟨rfl, hb⟩
         refine ⟨_, rfl, ?_⟩
         have n0_ := Aside0.mk (blk_below (g := gb129) (o := .cells #[.int .i64 0, .int .i64 0] 23 (0, 0)) BK129.out hb)
         have n1_ := Aside0.mk (blk_below (g := gb138) (o := .cells #[.int .i64 t133, .int .i64 t134, .int .i64 t135, .bool t136] 39 (0, 0)) BK138.out hb)
         have n2_ := Aside0.mk (blk_below (g := gb144) (o := .cells #[.int .i64 t139, .int .i64 t140, .int .i64 t141, .bool t142] 39 (0, 0)) BK144.out hb)
         have n3_ := Aside0.mk (blk_below (g := gb147) (o := .cells #[.int .i64 0, .int .i64 0] 23 (0, 0)) BK147.out hb)
         have n4_ := Aside0.mk (below_step (by with_reducible repeat first | exact HB.out | apply ba | apply bn | apply bd | refine bs ?_ GE129.out | refine bs ?_ GE138.out | refine bs ?_ GE144.out | refine bs ?_ GE147.out) hb)
         clear BK129
         clear BK138
         clear BK144
         clear BK147
         clear HB
         have BK129 := n0_
         have BK138 := n1_
         have BK144 := n2_
         have BK147 := n3_
         have HB := n4_
         clear n0_ n1_ n2_ n3_ n4_
         (try clear hb)
         (try clear hb2)
         (try clear hk)
         (try clear hi)
         refine hK.out _ _ ⟨(blk_cell BK144.out 0).trans rfl, (blk_cell BK144.out 1).trans rfl, (blk_cell BK144.out 2).trans rfl, (blk_cell BK144.out 3).trans rfl, (blk_cell BK138.out 0).trans rfl, (blk_cell BK138.out 1).trans rfl, (blk_cell BK138.out 2).trans rfl, (blk_cell BK138.out 3).trans rfl⟩ (fun hHeld => ?_)
         clear hK K
         refine norm_ (a' := ?_) ?_ ?_
         rotate_left
         ·show Act.put _ (some 36) _ = _
          simp only [Act.put, s1, s2, s3, i64_w, i32_w]
          rfl
         refine one_ (i := 3) (N := some 38) #[true, true, true, true, false, true, false] rfl rfl (by kernel_rfl) (by decide) (fun K hK => ?_)
         refine goes_ Try.func23 (by kernel_rfl) rfl #[.agg #[.int .i64 t133, .int .i64 t134, .int .i64 t135, .bool t136]] (by rfl) rfl rfl (by (try simp only [List.map_toArray, List.map_cons, List.map_nil]); first | done | rfl | (simp only [List.length_drop, List.length_take]; rfl)) ?_
         with_reducible refine (sphere_angle_value.calls t133 t134 t135 t136 t146 _ A22.out).mono ?_
         rintro e w32 ⟨rfl, hb⟩
         refine ⟨_, rfl, ?_⟩
         have n0_ := Aside0.mk (blk_below (g := gb129) (o := .cells #[.int .i64 0, .int .i64 0] 23 (0, 0)) BK129.out hb)
         have n1_ := Aside0.mk (blk_below (g := gb138) (o := .cells #[.int .i64 t133, .int .i64 t134, .int .i64 t135, .bool t136] 39 (0, 0)) BK138.out hb)
         have n2_ := Aside0.mk (blk_below (g := gb144) (o := .cells #[.int .i64 t139, .int .i64 t140, .int .i64 t141, .bool t142] 39 (0, 0)) BK144.out hb)
         have n3_ := Aside0.mk (blk_below (g := gb147) (o := .cells #[.int .i64 0, .int .i64 0] 23 (0, 0)) BK147.out hb)
         have n4_ := Aside0.mk (below_step (by with_reducible repeat first | exact HB.out | apply ba | apply bn | apply bd | refine bs ?_ GE129.out | refine bs ?_ GE138.out | refine bs ?_ GE144.out | refine bs ?_ GE147.out) hb)
         clear BK129
         clear BK138
         clear BK144
         clear BK147
         clear HB
         have BK129 := n0_
         have BK138 := n1_
         have BK144 := n2_
         have BK147 := n3_
         have HB := n4_
         clear n0_ n1_ n2_ n3_ n4_
         (try clear hb)
         (try clear hb2)
         (try clear hk)
         (try clear hi)
         refine hK.out _ _ ⟨(blk_cell BK144.out 0).trans rfl, (blk_cell BK144.out 1).trans rfl, (blk_cell BK144.out 2).trans rfl, (blk_cell BK144.out 3).trans rfl, (blk_cell BK138.out 0).trans rfl, (blk_cell BK138.out 1).trans rfl, (blk_cell BK138.out 2).trans rfl, (blk_cell BK138.out 3).trans rfl⟩ (fun hHeld => ?_)
         clear hK K
         refine norm_ (a' := ?_) ?_ ?_
         rotate_left
         ·show Act.put _ (some 38) _ = _
          simp only [Act.put, s1, s2, s3, i64_w, i32_w]
          rfl
         refine pure_ (i := 4) (N := some 39) (v := ?_) (a' := ?_) #[true, true, true, true, true, true, false] rfl rfl (by kernel_rfl) (fun _ _ _ h => h) (Or.inl ⟨by rfl, ?_⟩) ?_ ?_
         rotate_left
         ·intro w'
          go_simp
          with_reducible rfl
         rotate_left
         ·simp only [Act.put, s1, s2, s3, i64_w, i32_w]
          rfl
         exact norm_ (by simp only [putAll, Act.put, s1, s2, s3]) (hCont (gb147) _ ⟨hHeld, BK129.out, BK138.out, BK144.out, BK147.out, GW147.out, GE147.out, NB129_147.out, NB147_129.out, NB138_147.out, NB147_138.out, NB144_147.out, NB147_144.out, (by with_reducible repeat first | exact HB.out | apply ba | apply bn | apply bd | refine bs ?_ GE129.out | refine bs ?_ GE138.out | refine bs ?_ GE144.out | refine bs ?_ GE147.out)⟩)
       rintro gb147 w33 ⟨hS_, h0_, h1_, h2_, h3_, h4_, h5_, h6_, h7_, h8_, h9_, h10_, h11_, h12_⟩
       have n0_ : Aside0 (w33.heap[gb129]? = some (.cells #[.int .i64 0, .int .i64 0] 23 (0, 0))) := ⟨h0_⟩
       have n1_ : Aside0 (w33.heap[gb138]? = some (.cells #[.int .i64 t133, .int .i64 t134, .int .i64 t135, .bool t136] 39 (0, 0))) := ⟨h1_⟩
       have n2_ : Aside0 (w33.heap[gb144]? = some (.cells #[.int .i64 t139, .int .i64 t140, .int .i64 t141, .bool t142] 39 (0, 0))) := ⟨h2_⟩
       have n3_ : Aside0 (w33.heap[gb147]? = some (.cells #[.int .i64 0, .int .i64 0] 23 (0, 0))) := ⟨h3_⟩
       have n4_ : Aside0 (w.heap.size ≤ gb147) := ⟨h4_⟩
       have n5_ : Aside0 (w.heap.size ≤ gb147) := ⟨h5_⟩
       have n6_ : Aside0 (gb129 ≠ gb147) := ⟨h6_⟩
       have n7_ : Aside0 (gb147 ≠ gb129) := ⟨h7_⟩
       have n8_ : Aside0 (gb138 ≠ gb147) := ⟨h8_⟩
       have n9_ : Aside0 (gb147 ≠ gb138) := ⟨h9_⟩
       have n10_ : Aside0 (gb144 ≠ gb147) := ⟨h10_⟩
       have n11_ : Aside0 (gb147 ≠ gb144) := ⟨h11_⟩
       have n12_ : Aside0 (Below w.heap.size w w33) := ⟨h12_⟩
       clear BK129
       clear BK138
       clear BK144
       clear HB
       clear h0_ h1_ h2_ h3_ h4_ h5_ h6_ h7_ h8_ h9_ h10_ h11_ h12_
       have BK129 := n0_
       have BK138 := n1_
       have BK144 := n2_
       have BK147 := n3_
       have GW147 := n4_
       have GE147 := n5_
       have NB129_147 := n6_
       have NB147_129 := n7_
       have NB138_147 := n8_
       have NB147_138 := n9_
       have NB144_147 := n10_
       have NB147_144 := n11_
       have HB := n12_
       clear n0_ n1_ n2_ n3_ n4_ n5_ n6_ n7_ n8_ n9_ n10_ n11_ n12_
       have hHeld : w33.cell? ⟨gb144, 0, none⟩ = some (.int .i64 t139) ∧ w33.cell? ⟨gb144, 1, none⟩ = some (.int .i64 t140) ∧ w33.cell? ⟨gb144, 2, none⟩ = some (.int .i64 t141) ∧ w33.cell? ⟨gb144, 3, none⟩ = some (.bool t142) ∧ w33.cell? ⟨gb138, 0, none⟩ = some (.int .i64 t133) ∧ w33.cell? ⟨gb138, 1, none⟩ = some (.int .i64 t134) ∧ w33.cell? ⟨gb138, 2, none⟩ = some (.int .i64 t135) ∧ w33.cell? ⟨gb138, 3, none⟩ = some (.bool t136) := hS_
       refine norm_ (a' := ?_) ?_ ?_
       rotate_left
       ·simp only [putAll, Act.put, s1, s2, s3]
        rfl
       refine one_ (i := 6) (N := none) #[true, true, true, true, true, true, true] rfl rfl (by kernel_rfl) (by decide) (fun K hK => ?_)
       have hs34 : w33.cell? ⟨gb147, 0, none⟩ = some (.int .i64 0) := (blk_cell BK147.out 0).trans rfl
       have hfs34 := blk_frozen BK147.out 0
       have hns34_0 := NB129_147.out
       have hns34_1 := NB138_147.out
       have hns34_2 := NB144_147.out
       have hms34_0 := NB147_129.out
       have hms34_1 := NB147_138.out
       have hms34_2 := NB147_144.out
       have hs35 : w33.cell? ⟨gb147, 1, none⟩ = some (.int .i64 0) := (blk_cell BK147.out 1).trans rfl
       have hfs35 := blk_frozen BK147.out 1
       have hns35_0 := NB129_147.out
       have hns35_1 := NB138_147.out
       have hns35_2 := NB144_147.out
       have hms35_0 := NB147_129.out
       have hms35_1 := NB147_138.out
       have hms35_2 := NB147_144.out
       refine skip_ (w1 := ?_) (by rfl) rfl ?_ ?_
       rotate_left
       ·go_simp
        rfl
       refine hK.out _ _ ⟨((cell_far (p := ⟨gb147, _, none⟩) NB144_147.out _).trans (((cell_far (p := ⟨gb147, _, none⟩) NB144_147.out _).trans (hHeld.1)))), ((cell_far (p := ⟨gb147, _, none⟩) NB144_147.out _).trans (((cell_far (p := ⟨gb147, _, none⟩) NB144_147.out _).trans (hHeld.2.1)))), ((cell_far (p := ⟨gb147, _, none⟩) NB144_147.out _).trans (((cell_far (p := ⟨gb147, _, none⟩) NB144_147.out _).trans (hHeld.2.2.1)))), ((cell_far (p := ⟨gb147, _, none⟩) NB144_147.out _).trans (((cell_far (p := ⟨gb147, _, none⟩) NB144_147.out _).trans (hHeld.2.2.2.1)))), ((cell_far (p := ⟨gb147, _, none⟩) NB138_147.out _).trans (((cell_far (p := ⟨gb147, _, none⟩) NB138_147.out _).trans (hHeld.2.2.2.2.1)))), ((cell_far (p := ⟨gb147, _, none⟩) NB138_147.out _).trans (((cell_far (p := ⟨gb147, _, none⟩) NB138_147.out _).trans (hHeld.2.2.2.2.2.1)))), ((cell_far (p := ⟨gb147, _, none⟩) NB138_147.out _).trans (((cell_far (p := ⟨gb147, _, none⟩) NB138_147.out _).trans (hHeld.2.2.2.2.2.2.1)))), ((cell_far (p := ⟨gb147, _, none⟩) NB138_147.out _).trans (((cell_far (p := ⟨gb147, _, none⟩) NB138_147.out _).trans (hHeld.2.2.2.2.2.2.2))))⟩ (fun hHeld => ?_)
       clear hK K
       refine done_ (by kernel_rfl) ?_
       have hnb36 := NB144_129.out
       have hnc36 := NB129_144.out
       have hnb37 := NB144_138.out
       have hnc37 := NB138_144.out
       have hnb38 := NB144_147.out
       have hnc38 := NB147_144.out
       have hcz39_0 : w33.cell? ⟨gb144, 0, none⟩ = some (.int .i64 t139) := (blk_cell BK144.out 0).trans rfl
       have hcz39_1 : w33.cell? ⟨gb144, 1, none⟩ = some (.int .i64 t140) := (blk_cell BK144.out 1).trans rfl
       have hcz39_2 : w33.cell? ⟨gb144, 2, none⟩ = some (.int .i64 t141) := (blk_cell BK144.out 2).trans rfl
       have hcz39_3 : w33.cell? ⟨gb144, 3, none⟩ = some (.bool t142) := (blk_cell BK144.out 3).trans rfl
       have hfz39_0 := blk_frozen BK144.out 0
       have hfz39_1 := blk_frozen BK144.out 1
       have hfz39_2 := blk_frozen BK144.out 2
       have hfz39_3 := blk_frozen BK144.out 3
       try go_wp2_with (first | ((with_reducible refine gate_callee (f := 24) rfl ?_); refine goesL_ (some 41) rfl rfl Try.func24 (by kernel_rfl) rfl #[.agg #[.int .i64 t139, .int .i64 t140, .int .i64 t141, .bool t142]] rfl (by (try simp only [List.map_toArray, List.map_cons, List.map_nil]); first | done | rfl | (simp only [List.length_drop, List.length_take]; rfl)) ?_; (with_reducible refine (sphere_angle_fits.calls t139 t140 t141 t142 true _ A23.out).mono ?_); rintro e w40 ⟨rfl, hb⟩; refine ⟨_, rfl, ?_⟩; have n0_ := Aside0.mk (blk_below (g := gb129) (o := .cells #[.int .i64 0, .int .i64 0] 23 (0, 0)) (by (with_reducible repeat first | refine n_ ?_ _ | refine d_ ?_ | refine a_ ?_ _); refine blk_far ?_ NB129_147.out _; (with_reducible repeat first | refine n_ ?_ _ | refine d_ ?_ | refine a_ ?_ _); refine blk_far ?_ NB129_147.out _; (with_reducible repeat first | refine n_ ?_ _ | refine d_ ?_ | refine a_ ?_ _); exact BK129.out) hb); have n1_ := Aside0.mk (blk_below (g := gb138) (o := .cells #[.int .i64 t133, .int .i64 t134, .int .i64 t135, .bool t136] 39 (0, 0)) (by (with_reducible repeat first | refine n_ ?_ _ | refine d_ ?_ | refine a_ ?_ _); refine blk_far ?_ NB138_147.out _; (with_reducible repeat first | refine n_ ?_ _ | refine d_ ?_ | refine a_ ?_ _); refine blk_far ?_ NB138_147.out _; (with_reducible repeat first | refine n_ ?_ _ | refine d_ ?_ | refine a_ ?_ _); exact BK138.out) hb); have n2_ := Aside0.mk (blk_below (g := gb144) (o := .cells #[.int .i64 t139, .int .i64 t140, .int .i64 t141, .bool t142] 39 (0, 0)) (by (with_reducible repeat first | refine n_ ?_ _ | refine d_ ?_ | refine a_ ?_ _); refine blk_far ?_ NB144_147.out _; (with_reducible repeat first | refine n_ ?_ _ | refine d_ ?_ | refine a_ ?_ _); refine blk_far ?_ NB144_147.out _; (with_reducible repeat first | refine n_ ?_ _ | refine d_ ?_ | refine a_ ?_ _); exact BK144.out) hb); have n3_ := Aside0.mk (blk_below (g := gb147) (o := .cells #[.int .i64 t145, .int .i64 t146] 23 (0, 0)) (by (with_reducible repeat first | refine n_ ?_ _ | refine d_ ?_ | refine a_ ?_ _); refine blk_put (cs := #[.int .i64 t145, .int .i64 0]) ?_ 1 _ rfl; (with_reducible repeat first | refine n_ ?_ _ | refine d_ ?_ | refine a_ ?_ _); refine blk_put (cs := #[.int .i64 0, .int .i64 0]) ?_ 0 _ rfl; (with_reducible repeat first | refine n_ ?_ _ | refine d_ ?_ | refine a_ ?_ _); exact BK147.out) hb); have n4_ := Aside0.mk (below_step (by with_reducible repeat first | exact HB.out | apply ba | apply bn | apply bd | refine bs ?_ GE129.out | refine bs ?_ GE138.out | refine bs ?_ GE144.out | refine bs ?_ GE147.out) hb); clear BK129; clear BK138; clear BK144; clear BK147; clear HB; have BK129 := n0_; have BK138 := n1_; have BK144 := n2_; have BK147 := n3_; have HB := n4_; clear n0_ n1_ n2_ n3_ n4_; (try clear hb); (try clear hb2); (try clear hk); (try clear hi); have hnb41 := NB138_129.out; have hnc41 := NB129_138.out; have hnb42 := NB138_147.out; have hnc42 := NB147_138.out; have hcz43_0 : w40.cell? ⟨gb138, 0, none⟩ = some (.int .i64 t133) := (blk_cell BK138.out 0).trans rfl; have hcz43_1 : w40.cell? ⟨gb138, 1, none⟩ = some (.int .i64 t134) := (blk_cell BK138.out 1).trans rfl; have hcz43_2 : w40.cell? ⟨gb138, 2, none⟩ = some (.int .i64 t135) := (blk_cell BK138.out 2).trans rfl; have hcz43_3 : w40.cell? ⟨gb138, 3, none⟩ = some (.bool t136) := (blk_cell BK138.out 3).trans rfl; have hfz43_0 := blk_frozen BK138.out 0; have hfz43_1 := blk_frozen BK138.out 1; have hfz43_2 := blk_frozen BK138.out 2; have hfz43_3 := blk_frozen BK138.out 3) | (go_at_call 24; (with_reducible refine (sphere_angle_fits.calls t133 t134 t135 t136 true _ A25.out).mono ?_); rintro e w44 ⟨rfl, hb⟩; have n0_ := Aside0.mk (blk_below (g := gb129) (o := .cells #[.int .i64 0, .int .i64 0] 23 (0, 0)) BK129.out hb); have n1_ := Aside0.mk (blk_below (g := gb138) (o := .cells #[.int .i64 t133, .int .i64 t134, .int .i64 t135, .bool t136] 39 (0, 0)) BK138.out hb); have n2_ := Aside0.mk (blk_below (g := gb144) (o := .cells #[.int .i64 t139, .int .i64 t140, .int .i64 t141, .bool t142] 39 (0, 0)) BK144.out hb); have n3_ := Aside0.mk (blk_below (g := gb147) (o := .cells #[.int .i64 t145, .int .i64 t146] 23 (0, 0)) BK147.out hb); have n4_ := Aside0.mk (below_step (by with_reducible repeat first | exact HB.out | apply ba | apply bn | apply bd | refine bs ?_ GE129.out | refine bs ?_ GE138.out | refine bs ?_ GE144.out | refine bs ?_ GE147.out) hb); clear BK129; clear BK138; clear BK144; clear BK147; clear HB; have BK129 := n0_; have BK138 := n1_; have BK144 := n2_; have BK147 := n3_; have HB := n4_; clear n0_ n1_ n2_ n3_ n4_; (try clear hb); (try clear hb2); (try clear hk); (try clear hi); have hnb45 := NB147_129.out; have hnc45 := NB129_147.out; have hcz46_0 : w44.cell? ⟨gb147, 0, none⟩ = some (.int .i64 t145) := (blk_cell BK147.out 0).trans rfl; have hcz46_1 : w44.cell? ⟨gb147, 1, none⟩ = some (.int .i64 t146) := (blk_cell BK147.out 1).trans rfl; have hfz46_0 := blk_frozen BK147.out 0; have hfz46_1 := blk_frozen BK147.out 1) | (go_at_call 10; (with_reducible refine (sphere_Valid.calls t145 t146 true _ A27.out).mono ?_); rintro e w47 ⟨rfl, hb⟩; have n0_ := Aside0.mk (blk_below (g := gb129) (o := .cells #[.int .i64 0, .int .i64 0] 23 (0, 0)) BK129.out hb); have n1_ := Aside0.mk (blk_below (g := gb138) (o := .cells #[.int .i64 t133, .int .i64 t134, .int .i64 t135, .bool t136] 39 (0, 0)) BK138.out hb); have n2_ := Aside0.mk (blk_below (g := gb144) (o := .cells #[.int .i64 t139, .int .i64 t140, .int .i64 t141, .bool t142] 39 (0, 0)) BK144.out hb); have n3_ := Aside0.mk (blk_below (g := gb147) (o := .cells #[.int .i64 t145, .int .i64 t146] 23 (0, 0)) BK147.out hb); have n4_ := Aside0.mk (below_step (by with_reducible repeat first | exact HB.out | apply ba | apply bn | apply bd | refine bs ?_ GE129.out | refine bs ?_ GE138.out | refine bs ?_ GE144.out | refine bs ?_ GE147.out) hb); clear BK129; clear BK138; clear BK144; clear BK147; clear HB; have BK129 := n0_; have BK138 := n1_; have BK144 := n2_; have BK147 := n3_; have HB := n4_; clear n0_ n1_ n2_ n3_ n4_; (try clear hb); (try clear hb2); (try clear hk); (try clear hi); have hcz48_0 : w47.cell? ⟨gb147, 0, none⟩ = some (.int .i64 t145) := (blk_cell BK147.out 0).trans rfl; have hcz48_1 : w47.cell? ⟨gb147, 1, none⟩ = some (.int .i64 t146) := (blk_cell BK147.out 1).trans rfl; have hfz48_0 := blk_frozen BK147.out 0; have hfz48_1 := blk_frozen BK147.out 1; have hcz49_0 : w47.cell? ⟨gb129, 0, none⟩ = some (.int .i64 0) := (blk_cell BK129.out 0).trans rfl; have hcz49_1 : w47.cell? ⟨gb129, 1, none⟩ = some (.int .i64 0) := (blk_cell BK129.out 1).trans rfl; have hfz49_0 := blk_frozen BK129.out 0; have hfz49_1 := blk_frozen BK129.out 1))
       refine bodyPost_ret (results_ct rfl _ _ gb129 23 #[.int .i64 t145, .int .i64 t146] (0, 0) _ rfl (by (with_reducible repeat first | refine n_ ?_ _ | refine d_ ?_ | refine a_ ?_ _); refine blk_put (cs := #[.int .i64 t145, .int .i64 0]) ?_ 1 _ rfl; (with_reducible repeat first | refine n_ ?_ _ | refine d_ ?_ | refine a_ ?_ _); refine blk_put (cs := #[.int .i64 0, .int .i64 0]) ?_ 0 _ rfl; (with_reducible repeat first | refine n_ ?_ _ | refine d_ ?_ | refine a_ ?_ _); exact BK129.out) Try.underlying23 rfl (by kernel_rfl)) rfl ?_
       exact ⟨by first | rfl | (simp [errW_none, errW_some] <;> rfl) | (simp [*, errW_none, errW_some] <;> rfl), by with_reducible repeat first | exact HB.out | apply ba | apply bn | apply bd | refine bs ?_ GE129.out | refine bs ?_ GE138.out | refine bs ?_ GE144.out | refine bs ?_ GE147.out⟩
      ·replace c28 := Bool.eq_false_iff.mpr c28
       subst c28
       have H1 : (some (0, 0, 2)) = some (r1, r2, r3) := by rw [if_neg (show ¬ (false = true) by decide)] at H; exact H
       clear H
       have H := H1
       clear H1
       simp only [Option.some.injEq, Prod.mk.injEq] at H
       obtain ⟨rfl, rfl, rfl⟩ := H
       try go_wp2
       have n0_ := Aside0.mk (blk_drew BK129.out)
       have n1_ := Aside0.mk (blk_drew BK138.out)
       have n2_ := Aside0.mk (blk_drew BK144.out)
       have n3_ := Aside0.mk (below_drew1 HB.out)
       clear BK129
       clear BK138
       clear BK144
       clear HB
       have BK129 := n0_
       have BK138 := n1_
       have BK144 := n2_
       have HB := n3_
       clear n0_ n1_ n2_ n3_
       refine start_ (n := 7) (S := fun w' => w'.cell? ⟨gb144, 0, none⟩ = some (.int .i64 t139) ∧ w'.cell? ⟨gb144, 1, none⟩ = some (.int .i64 t140) ∧ w'.cell? ⟨gb144, 2, none⟩ = some (.int .i64 t141) ∧ w'.cell? ⟨gb144, 3, none⟩ = some (.bool t142) ∧ w'.cell? ⟨gb138, 0, none⟩ = some (.int .i64 t133) ∧ w'.cell? ⟨gb138, 1, none⟩ = some (.int .i64 t134) ∧ w'.cell? ⟨gb138, 2, none⟩ = some (.int .i64 t135) ∧ w'.cell? ⟨gb138, 3, none⟩ = some (.bool t136)) (ds := []) #[false, false, false, false, false, false, false] (by kernel_rfl) rfl rfl ⟨(blk_cell BK144.out 0).trans rfl, (blk_cell BK144.out 1).trans rfl, (blk_cell BK144.out 2).trans rfl, (blk_cell BK144.out 3).trans rfl, (blk_cell BK138.out 0).trans rfl, (blk_cell BK138.out 1).trans rfl, (blk_cell BK138.out 2).trans rfl, (blk_cell BK138.out 3).trans rfl⟩ (fun hHeld => ?_)
       generalize wc.drew = w50 at BK129 BK138 BK144 HB hHeld ⊢
       refine take_ (i := 0) (N := some 35) (v := ?_) (a' := ?_) #[true, false, false, false, false, false, false] rfl rfl (by kernel_rfl) (fun _ _ _ h => h) (Or.inl ⟨by rfl, ?_⟩) hHeld ?_ ?_
       rotate_left
       ·rintro w' ⟨s0, s1, s2, s3, s4, s5, s6, s7⟩
        go_simp
        with_reducible rfl
       rotate_left
       ·simp only [Act.put, s1, s2, s3, i64_w, i32_w]
        rfl
       refine take_ (i := 2) (N := some 37) (v := ?_) (a' := ?_) #[true, false, true, false, false, false, false] rfl rfl (by kernel_rfl) (fun _ _ _ h => h) (Or.inl ⟨by rfl, ?_⟩) hHeld ?_ ?_
       rotate_left
       ·rintro w' ⟨s0, s1, s2, s3, s4, s5, s6, s7⟩
        go_simp
        with_reducible rfl
       rotate_left
       ·simp only [Act.put, s1, s2, s3, i64_w, i32_w]
        rfl
       refine join_ (σ := Nat) 1 #[true, true, true, true, true, true, false] (fun s_ => [(36, .int .i64 t145), (38, .int .i64 t146), (11, .pointer (some ⟨s_, 0, none⟩)), (39, .agg #[.int .i64 t145, .int .i64 t146])]) (fun s_ w' => (w'.cell? ⟨gb144, 0, none⟩ = some (.int .i64 t139) ∧ w'.cell? ⟨gb144, 1, none⟩ = some (.int .i64 t140) ∧ w'.cell? ⟨gb144, 2, none⟩ = some (.int .i64 t141) ∧ w'.cell? ⟨gb144, 3, none⟩ = some (.bool t142) ∧ w'.cell? ⟨gb138, 0, none⟩ = some (.int .i64 t133) ∧ w'.cell? ⟨gb138, 1, none⟩ = some (.int .i64 t134) ∧ w'.cell? ⟨gb138, 2, none⟩ = some (.int .i64 t135) ∧ w'.cell? ⟨gb138, 3, none⟩ = some (.bool t136)) ∧ (w'.heap[gb129]? = some (.cells #[.int .i64 0, .int .i64 0] 23 (0, 0))) ∧ (w'.heap[gb138]? = some (.cells #[.int .i64 t133, .int .i64 t134, .int .i64 t135, .bool t136] 39 (0, 0))) ∧ (w'.heap[gb144]? = some (.cells #[.int .i64 t139, .int .i64 t140, .int .i64 t141, .bool t142] 39 (0, 0))) ∧ (w'.heap[s_]? = some (.cells #[.int .i64 0, .int .i64 0] 23 (0, 0))) ∧ (w.heap.size ≤ s_) ∧ (w.heap.size ≤ s_) ∧ (gb129 ≠ s_) ∧ (s_ ≠ gb129) ∧ (gb138 ≠ s_) ∧ (s_ ≠ gb138) ∧ (gb144 ≠ s_) ∧ (s_ ≠ gb144) ∧ (Below w.heap.size w w')) ?_ ?_
       rotate_left
       ·intro hCont
        refine two_ (i := 1) (j := 5) (Ni := some 36) (Nj := some 11) #[true, true, true, false, false, false, false] #[true, false, true, false, false, true, false] rfl rfl rfl rfl (by kernel_rfl) (by decide) (by decide) (fun K hK => ?_) (fun K hK => ?_)
        ·skip
         refine goes_ Try.func23 (by kernel_rfl) rfl #[.agg #[.int .i64 t139, .int .i64 t140, .int .i64 t141, .bool t142]] (by rfl) rfl rfl (by (try simp only [List.map_toArray, List.map_cons, List.map_nil]); first | done | rfl | (simp only [List.length_drop, List.length_take]; rfl)) ?_
         with_reducible refine (sphere_angle_value.calls t139 t140 t141 t142 t145 _ A21.out).mono ?_
         rintro e w51 ⟨rfl, hb⟩
         refine ⟨_, rfl, ?_⟩
         have n0_ := Aside0.mk (blk_below (g := gb129) (o := .cells #[.int .i64 0, .int .i64 0] 23 (0, 0)) BK129.out hb)
         have n1_ := Aside0.mk (blk_below (g := gb138) (o := .cells #[.int .i64 t133, .int .i64 t134, .int .i64 t135, .bool t136] 39 (0, 0)) BK138.out hb)
         have n2_ := Aside0.mk (blk_below (g := gb144) (o := .cells #[.int .i64 t139, .int .i64 t140, .int .i64 t141, .bool t142] 39 (0, 0)) BK144.out hb)
         have n3_ := Aside0.mk (below_step (by with_reducible repeat first | exact HB.out | apply ba | apply bn | apply bd | refine bs ?_ GE129.out | refine bs ?_ GE138.out | refine bs ?_ GE144.out) hb)
         clear BK129
         clear BK138
         clear BK144
         clear HB
         have BK129 := n0_
         have BK138 := n1_
         have BK144 := n2_
         have HB := n3_
         clear n0_ n1_ n2_ n3_
         (try clear hb)
         (try clear hb2)
         (try clear hk)
         (try clear hi)
         refine hK.out _ _ ⟨(blk_cell BK144.out 0).trans rfl, (blk_cell BK144.out 1).trans rfl, (blk_cell BK144.out 2).trans rfl, (blk_cell BK144.out 3).trans rfl, (blk_cell BK138.out 0).trans rfl, (blk_cell BK138.out 1).trans rfl, (blk_cell BK138.out 2).trans rfl, (blk_cell BK138.out 3).trans rfl⟩ (fun hHeld => ?_)
         clear hK K
         refine norm_ (a' := ?_) ?_ ?_
         rotate_left
         ·show Act.put _ (some 36) _ = _
          simp only [Act.put, s1, s2, s3, i64_w, i32_w]
          rfl
         refine two_ (i := 3) (j := 5) (Ni := some 38) (Nj := some 11) #[true, true, true, true, false, false, false] #[true, true, true, false, false, true, false] rfl rfl rfl rfl (by kernel_rfl) (by decide) (by decide) (fun K hK => ?_) (fun K hK => ?_)
         ·skip
          refine goes_ Try.func23 (by kernel_rfl) rfl #[.agg #[.int .i64 t133, .int .i64 t134, .int .i64 t135, .bool t136]] (by rfl) rfl rfl (by (try simp only [List.map_toArray, List.map_cons, List.map_nil]); first | done | rfl | (simp only [List.length_drop, List.length_take]; rfl)) ?_
          with_reducible refine (sphere_angle_value.calls t133 t134 t135 t136 t146 _ A22.out).mono ?_
          rintro e w52 ⟨rfl, hb⟩
          refine ⟨_, rfl, ?_⟩
          have n0_ := Aside0.mk (blk_below (g := gb129) (o := .cells #[.int .i64 0, .int .i64 0] 23 (0, 0)) BK129.out hb)
          have n1_ := Aside0.mk (blk_below (g := gb138) (o := .cells #[.int .i64 t133, .int .i64 t134, .int .i64 t135, .bool t136] 39 (0, 0)) BK138.out hb)
          have n2_ := Aside0.mk (blk_below (g := gb144) (o := .cells #[.int .i64 t139, .int .i64 t140, .int .i64 t141, .bool t142] 39 (0, 0)) BK144.out hb)
          have n3_ := Aside0.mk (below_step (by with_reducible repeat first | exact HB.out | apply ba | apply bn | apply bd | refine bs ?_ GE129.out | refine bs ?_ GE138.out | refine bs ?_ GE144.out) hb)
          clear BK129
          clear BK138
          clear BK144
          clear HB
          have BK129 := n0_
          have BK138 := n1_
          have BK144 := n2_
          have HB := n3_
          clear n0_ n1_ n2_ n3_
          (try clear hb)
          (try clear hb2)
          (try clear hk)
          (try clear hi)
          refine hK.out _ _ ⟨(blk_cell BK144.out 0).trans rfl, (blk_cell BK144.out 1).trans rfl, (blk_cell BK144.out 2).trans rfl, (blk_cell BK144.out 3).trans rfl, (blk_cell BK138.out 0).trans rfl, (blk_cell BK138.out 1).trans rfl, (blk_cell BK138.out 2).trans rfl, (blk_cell BK138.out 3).trans rfl⟩ (fun hHeld => ?_)
          clear hK K
          refine norm_ (a' := ?_) ?_ ?_
          rotate_left
          ·show Act.put _ (some 38) _ = _
           simp only [Act.put, s1, s2, s3, i64_w, i32_w]
           rfl
          refine pure_ (i := 4) (N := some 39) (v := ?_) (a' := ?_) #[true, true, true, true, true, false, false] rfl rfl (by kernel_rfl) (fun _ _ _ h => h) (Or.inl ⟨by rfl, ?_⟩) ?_ ?_
          rotate_left
          ·intro w'
           go_simp
           with_reducible rfl
          rotate_left
          ·simp only [Act.put, s1, s2, s3, i64_w, i32_w]
           rfl
          refine one_ (i := 5) (N := some 11) #[true, true, true, true, true, true, false] rfl rfl (by kernel_rfl) (by decide) (fun K hK => ?_)
          refine box_step ?hg (N := 11) ?hd (cs := #[.int .i64 0, .int .i64 0]) (t := 23) ?hr ?_; (case hd => rfl); (case hg => rfl); (case hr => first | (go_simp; done) | (go_simp; rfl))
          intro gb147 hg w53 hbox hb
          have n0_ := Aside0.mk (blk_below (g := gb129) (o := .cells #[.int .i64 0, .int .i64 0] 23 (0, 0)) BK129.out hb)
          have n1_ := Aside0.mk (blk_below (g := gb138) (o := .cells #[.int .i64 t133, .int .i64 t134, .int .i64 t135, .bool t136] 39 (0, 0)) BK138.out hb)
          have n2_ := Aside0.mk (blk_below (g := gb144) (o := .cells #[.int .i64 t139, .int .i64 t140, .int .i64 t141, .bool t142] 39 (0, 0)) BK144.out hb)
          have n3_ := Aside0.mk (below_step (by with_reducible repeat first | exact HB.out | apply ba | apply bn | apply bd | refine bs ?_ GE129.out | refine bs ?_ GE138.out | refine bs ?_ GE144.out) hb)
          have n4_ := Aside0.mk (hbox)
          have n5_ := Aside0.mk ((by rw [hg]; exact (below_size (by with_reducible repeat first | exact HB.out | apply ba | apply bn | apply bd | refine bs ?_ GE129.out | refine bs ?_ GE138.out | refine bs ?_ GE144.out)) : w.heap.size ≤ gb147))
          have n6_ := Aside0.mk ((by rw [hg]; exact (below_size (by with_reducible repeat first | exact HB.out | apply ba | apply bn | apply bd | refine bs ?_ GE129.out | refine bs ?_ GE138.out | refine bs ?_ GE144.out)) : w.heap.size ≤ gb147))
          have n7_ := Aside0.mk ((by rw [hg]; exact Nat.ne_of_lt (blk_lt (g := gb129) (o := .cells #[.int .i64 0, .int .i64 0] 23 (0, 0)) BK129.out) : gb129 ≠ gb147))
          have n8_ := Aside0.mk ((by rw [hg]; exact Nat.ne_of_gt (blk_lt (g := gb129) (o := .cells #[.int .i64 0, .int .i64 0] 23 (0, 0)) BK129.out) : gb147 ≠ gb129))
          have n9_ := Aside0.mk ((by rw [hg]; exact Nat.ne_of_lt (blk_lt (g := gb138) (o := .cells #[.int .i64 t133, .int .i64 t134, .int .i64 t135, .bool t136] 39 (0, 0)) BK138.out) : gb138 ≠ gb147))
          have n10_ := Aside0.mk ((by rw [hg]; exact Nat.ne_of_gt (blk_lt (g := gb138) (o := .cells #[.int .i64 t133, .int .i64 t134, .int .i64 t135, .bool t136] 39 (0, 0)) BK138.out) : gb147 ≠ gb138))
          have n11_ := Aside0.mk ((by rw [hg]; exact Nat.ne_of_lt (blk_lt (g := gb144) (o := .cells #[.int .i64 t139, .int .i64 t140, .int .i64 t141, .bool t142] 39 (0, 0)) BK144.out) : gb144 ≠ gb147))
          have n12_ := Aside0.mk ((by rw [hg]; exact Nat.ne_of_gt (blk_lt (g := gb144) (o := .cells #[.int .i64 t139, .int .i64 t140, .int .i64 t141, .bool t142] 39 (0, 0)) BK144.out) : gb147 ≠ gb144))
          clear BK129
          clear BK138
          clear BK144
          clear HB
          have BK129 := n0_
          have BK138 := n1_
          have BK144 := n2_
          have HB := n3_
          have BK147 := n4_
          have GW147 := n5_
          have GE147 := n6_
          have NB129_147 := n7_
          have NB147_129 := n8_
          have NB138_147 := n9_
          have NB147_138 := n10_
          have NB144_147 := n11_
          have NB147_144 := n12_
          clear n0_ n1_ n2_ n3_ n4_ n5_ n6_ n7_ n8_ n9_ n10_ n11_ n12_
          clear hb hbox hg
          refine hK.out _ _ ⟨(blk_cell BK144.out 0).trans rfl, (blk_cell BK144.out 1).trans rfl, (blk_cell BK144.out 2).trans rfl, (blk_cell BK144.out 3).trans rfl, (blk_cell BK138.out 0).trans rfl, (blk_cell BK138.out 1).trans rfl, (blk_cell BK138.out 2).trans rfl, (blk_cell BK138.out 3).trans rfl⟩ (fun hHeld => ?_)
          clear hK K
          refine norm_ (a' := ?_) ?_ ?_
          rotate_left
          ·show Act.put _ (some 11) _ = _
           simp only [Act.put, s1, s2, s3, i64_w, i32_w]
           rfl
          exact norm_ (by simp only [putAll, Act.put, s1, s2, s3]) (hCont (gb147) _ ⟨hHeld, BK129.out, BK138.out, BK144.out, BK147.out, GW147.out, GE147.out, NB129_147.out, NB147_129.out, NB138_147.out, NB147_138.out, NB144_147.out, NB147_144.out, (by with_reducible repeat first | exact HB.out | apply ba | apply bn | apply bd | refine bs ?_ GE129.out | refine bs ?_ GE138.out | refine bs ?_ GE144.out | refine bs ?_ GE147.out)⟩)
         ·skip
          refine box_step ?hg (N := 11) ?hd (cs := #[.int .i64 0, .int .i64 0]) (t := 23) ?hr ?_; (case hd => rfl); (case hg => rfl); (case hr => first | (go_simp; done) | (go_simp; rfl))
          intro gb147 hg w52 hbox hb
          have n0_ := Aside0.mk (blk_below (g := gb129) (o := .cells #[.int .i64 0, .int .i64 0] 23 (0, 0)) BK129.out hb)
          have n1_ := Aside0.mk (blk_below (g := gb138) (o := .cells #[.int .i64 t133, .int .i64 t134, .int .i64 t135, .bool t136] 39 (0, 0)) BK138.out hb)
          have n2_ := Aside0.mk (blk_below (g := gb144) (o := .cells #[.int .i64 t139, .int .i64 t140, .int .i64 t141, .bool t142] 39 (0, 0)) BK144.out hb)
          have n3_ := Aside0.mk (below_step (by with_reducible repeat first | exact HB.out | apply ba | apply bn | apply bd | refine bs ?_ GE129.out | refine bs ?_ GE138.out | refine bs ?_ GE144.out) hb)
          have n4_ := Aside0.mk (hbox)
          have n5_ := Aside0.mk ((by rw [hg]; exact (below_size (by with_reducible repeat first | exact HB.out | apply ba | apply bn | apply bd | refine bs ?_ GE129.out | refine bs ?_ GE138.out | refine bs ?_ GE144.out)) : w.heap.size ≤ gb147))
          have n6_ := Aside0.mk ((by rw [hg]; exact (below_size (by with_reducible repeat first | exact HB.out | apply ba | apply bn | apply bd | refine bs ?_ GE129.out | refine bs ?_ GE138.out | refine bs ?_ GE144.out)) : w.heap.size ≤ gb147))
          have n7_ := Aside0.mk ((by rw [hg]; exact Nat.ne_of_lt (blk_lt (g := gb129) (o := .cells #[.int .i64 0, .int .i64 0] 23 (0, 0)) BK129.out) : gb129 ≠ gb147))
          have n8_ := Aside0.mk ((by rw [hg]; exact Nat.ne_of_gt (blk_lt (g := gb129) (o := .cells #[.int .i64 0, .int .i64 0] 23 (0, 0)) BK129.out) : gb147 ≠ gb129))
          have n9_ := Aside0.mk ((by rw [hg]; exact Nat.ne_of_lt (blk_lt (g := gb138) (o := .cells #[.int .i64 t133, .int .i64 t134, .int .i64 t135, .bool t136] 39 (0, 0)) BK138.out) : gb138 ≠ gb147))
          have n10_ := Aside0.mk ((by rw [hg]; exact Nat.ne_of_gt (blk_lt (g := gb138) (o := .cells #[.int .i64 t133, .int .i64 t134, .int .i64 t135, .bool t136] 39 (0, 0)) BK138.out) : gb147 ≠ gb138))
          have n11_ := Aside0.mk ((by rw [hg]; exact Nat.ne_of_lt (blk_lt (g := gb144) (o := .cells #[.int .i64 t139, .int .i64 t140, .int .i64 t141, .bool t142] 39 (0, 0)) BK144.out) : gb144 ≠ gb147))
          have n12_ := Aside0.mk ((by rw [hg]; exact Nat.ne_of_gt (blk_lt (g := gb144) (o := .cells #[.int .i64 t139, .int .i64 t140, .int .i64 t141, .bool t142] 39 (0, 0)) BK144.out) : gb147 ≠ gb144))
          clear BK129
          clear BK138
          clear BK144
          clear HB
          have BK129 := n0_
          have BK138 := n1_
          have BK144 := n2_
          have HB := n3_
          have BK147 := n4_
          have GW147 := n5_
          have GE147 := n6_
          have NB129_147 := n7_
          have NB147_129 := n8_
          have NB138_147 := n9_
          have NB147_138 := n10_
          have NB144_147 := n11_
          have NB147_144 := n12_
          clear n0_ n1_ n2_ n3_ n4_ n5_ n6_ n7_ n8_ n9_ n10_ n11_ n12_
          clear hb hbox hg
          refine hK.out _ _ ⟨(blk_cell BK144.out 0).trans rfl, (blk_cell BK144.out 1).trans rfl, (blk_cell BK144.out 2).trans rfl, (blk_cell BK144.out 3).trans rfl, (blk_cell BK138.out 0).trans rfl, (blk_cell BK138.out 1).trans rfl, (blk_cell BK138.out 2).trans rfl, (blk_cell BK138.out 3).trans rfl⟩ (fun hHeld => ?_)
          clear hK K
          refine norm_ (a' := ?_) ?_ ?_
          rotate_left
          ·show Act.put _ (some 11) _ = _
           simp only [Act.put, s1, s2, s3, i64_w, i32_w]
           rfl
          refine one_ (i := 3) (N := some 38) #[true, true, true, true, false, true, false] rfl rfl (by kernel_rfl) (by decide) (fun K hK => ?_)
          refine goes_ Try.func23 (by kernel_rfl) rfl #[.agg #[.int .i64 t133, .int .i64 t134, .int .i64 t135, .bool t136]] (by rfl) rfl rfl (by (try simp only [List.map_toArray, List.map_cons, List.map_nil]); first | done | rfl | (simp only [List.length_drop, List.length_take]; rfl)) ?_
          with_reducible refine (sphere_angle_value.calls t133 t134 t135 t136 t146 _ A22.out).mono ?_
          rintro e w53 ⟨rfl, hb⟩
          refine ⟨_, rfl, ?_⟩
          have n0_ := Aside0.mk (blk_below (g := gb129) (o := .cells #[.int .i64 0, .int .i64 0] 23 (0, 0)) BK129.out hb)
          have n1_ := Aside0.mk (blk_below (g := gb138) (o := .cells #[.int .i64 t133, .int .i64 t134, .int .i64 t135, .bool t136] 39 (0, 0)) BK138.out hb)
          have n2_ := Aside0.mk (blk_below (g := gb144) (o := .cells #[.int .i64 t139, .int .i64 t140, .int .i64 t141, .bool t142] 39 (0, 0)) BK144.out hb)
          have n3_ := Aside0.mk (blk_below (g := gb147) (o := .cells #[.int .i64 0, .int .i64 0] 23 (0, 0)) BK147.out hb)
          have n4_ := Aside0.mk (below_step (by with_reducible repeat first | exact HB.out | apply ba | apply bn | apply bd | refine bs ?_ GE129.out | refine bs ?_ GE138.out | refine bs ?_ GE144.out | refine bs ?_ GE147.out) hb)
          clear BK129
          clear BK138
          clear BK144
          clear BK147
          clear HB
          have BK129 := n0_
          have BK138 := n1_
          have BK144 := n2_
          have BK147 := n3_
          have HB := n4_
          clear n0_ n1_ n2_ n3_ n4_
          (try clear hb)
          (try clear hb2)
          (try clear hk)
          (try clear hi)
          refine hK.out _ _ ⟨(blk_cell BK144.out 0).trans rfl, (blk_cell BK144.out 1).trans rfl, (blk_cell BK144.out 2).trans rfl, (blk_cell BK144.out 3).trans rfl, (blk_cell BK138.out 0).trans rfl, (blk_cell BK138.out 1).trans rfl, (blk_cell BK138.out 2).trans rfl, (blk_cell BK138.out 3).trans rfl⟩ (fun hHeld => ?_)
          clear hK K
          refine norm_ (a' := ?_) ?_ ?_
          rotate_left
          ·show Act.put _ (some 38) _ = _
           simp only [Act.put, s1, s2, s3, i64_w, i32_w]
           rfl
          refine pure_ (i := 4) (N := some 39) (v := ?_) (a' := ?_) #[true, true, true, true, true, true, false] rfl rfl (by kernel_rfl) (fun _ _ _ h => h) (Or.inl ⟨by rfl, ?_⟩) ?_ ?_
          rotate_left
          ·intro w'
           go_simp
           with_reducible rfl
          rotate_left
          ·simp only [Act.put, s1, s2, s3, i64_w, i32_w]
           rfl
          exact norm_ (by simp only [putAll, Act.put, s1, s2, s3]) (hCont (gb147) _ ⟨hHeld, BK129.out, BK138.out, BK144.out, BK147.out, GW147.out, GE147.out, NB129_147.out, NB147_129.out, NB138_147.out, NB147_138.out, NB144_147.out, NB147_144.out, (by with_reducible repeat first | exact HB.out | apply ba | apply bn | apply bd | refine bs ?_ GE129.out | refine bs ?_ GE138.out | refine bs ?_ GE144.out | refine bs ?_ GE147.out)⟩)
        ·skip
         refine box_step ?hg (N := 11) ?hd (cs := #[.int .i64 0, .int .i64 0]) (t := 23) ?hr ?_; (case hd => rfl); (case hg => rfl); (case hr => first | (go_simp; done) | (go_simp; rfl))
         intro gb147 hg w51 hbox hb
         have n0_ := Aside0.mk (blk_below (g := gb129) (o := .cells #[.int .i64 0, .int .i64 0] 23 (0, 0)) BK129.out hb)
         have n1_ := Aside0.mk (blk_below (g := gb138) (o := .cells #[.int .i64 t133, .int .i64 t134, .int .i64 t135, .bool t136] 39 (0, 0)) BK138.out hb)
         have n2_ := Aside0.mk (blk_below (g := gb144) (o := .cells #[.int .i64 t139, .int .i64 t140, .int .i64 t141, .bool t142] 39 (0, 0)) BK144.out hb)
         have n3_ := Aside0.mk (below_step (by with_reducible repeat first | exact HB.out | apply ba | apply bn | apply bd | refine bs ?_ GE129.out | refine bs ?_ GE138.out | refine bs ?_ GE144.out) hb)
         have n4_ := Aside0.mk (hbox)
         have n5_ := Aside0.mk ((by rw [hg]; exact (below_size (by with_reducible repeat first | exact HB.out | apply ba | apply bn | apply bd | refine bs ?_ GE129.out | refine bs ?_ GE138.out | refine bs ?_ GE144.out)) : w.heap.size ≤ gb147))
         have n6_ := Aside0.mk ((by rw [hg]; exact (below_size (by with_reducible repeat first | exact HB.out | apply ba | apply bn | apply bd | refine bs ?_ GE129.out | refine bs ?_ GE138.out | refine bs ?_ GE144.out)) : w.heap.size ≤ gb147))
         have n7_ := Aside0.mk ((by rw [hg]; exact Nat.ne_of_lt (blk_lt (g := gb129) (o := .cells #[.int .i64 0, .int .i64 0] 23 (0, 0)) BK129.out) : gb129 ≠ gb147))
         have n8_ := Aside0.mk ((by rw [hg]; exact Nat.ne_of_gt (blk_lt (g := gb129) (o := .cells #[.int .i64 0, .int .i64 0] 23 (0, 0)) BK129.out) : gb147 ≠ gb129))
         have n9_ := Aside0.mk ((by rw [hg]; exact Nat.ne_of_lt (blk_lt (g := gb138) (o := .cells #[.int .i64 t133, .int .i64 t134, .int .i64 t135, .bool t136] 39 (0, 0)) BK138.out) : gb138 ≠ gb147))
         have n10_ := Aside0.mk ((by rw [hg]; exact Nat.ne_of_gt (blk_lt (g := gb138) (o := .cells #[.int .i64 t133, .int .i64 t134, .int .i64 t135, .bool t136] 39 (0, 0)) BK138.out) : gb147 ≠ gb138))
         have n11_ := Aside0.mk ((by rw [hg]; exact Nat.ne_of_lt (blk_lt (g := gb144) (o := .cells #[.int .i64 t139, .int .i64 t140, .int .i64 t141, .bool t142] 39 (0, 0)) BK144.out) : gb144 ≠ gb147))
         have n12_ := Aside0.mk ((by rw [hg]; exact Nat.ne_of_gt (blk_lt (g := gb144) (o := .cells #[.int .i64 t139, .int .i64 t140, .int .i64 t141, .bool t142] 39 (0, 0)) BK144.out) : gb147 ≠ gb144))
         clear BK129
         clear BK138
         clear BK144
         clear HB
         have BK129 := n0_
         have BK138 := n1_
         have BK144 := n2_
         have HB := n3_
         have BK147 := n4_
         have GW147 := n5_
         have GE147 := n6_
         have NB129_147 := n7_
         have NB147_129 := n8_
         have NB138_147 := n9_
         have NB147_138 := n10_
         have NB144_147 := n11_
         have NB147_144 := n12_
         clear n0_ n1_ n2_ n3_ n4_ n5_ n6_ n7_ n8_ n9_ n10_ n11_ n12_
         clear hb hbox hg
         refine hK.out _ _ ⟨(blk_cell BK144.out 0).trans rfl, (blk_cell BK144.out 1).trans rfl, (blk_cell BK144.out 2).trans rfl, (blk_cell BK144.out 3).trans rfl, (blk_cell BK138.out 0).trans rfl, (blk_cell BK138.out 1).trans rfl, (blk_cell BK138.out 2).trans rfl, (blk_cell BK138.out 3).trans rfl⟩ (fun hHeld => ?_)
         clear hK K
         refine norm_ (a' := ?_) ?_ ?_
         rotate_left
         ·show Act.put _ (some 11) _ = _
          simp only [Act.put, s1, s2, s3, i64_w, i32_w]
          rfl
         refine one_ (i := 1) (N := some 36) #[true, true, true, false, false, true, false] rfl rfl (by kernel_rfl) (by decide) (fun K hK => ?_)
         refine goes_ Try.func23 (by kernel_rfl) rfl #[.agg #[.int .i64 t139, .int .i64 t140, .int .i64 t141, .bool t142]] (by rfl) rfl rfl (by (try simp only [List.map_toArray, List.map_cons, List.map_nil]); first | done | rfl | (simp only [List.length_drop, List.length_take]; rfl)) ?_
         with_reducible refine (sphere_angle_value.calls t139 t140 t141 t142 t145 _ A21.out).mono ?_
         rintro e w52 ⟨rfl, hb⟩
         refine ⟨_, rfl, ?_⟩
         have n0_ := Aside0.mk (blk_below (g := gb129) (o := .cells #[.int .i64 0, .int .i64 0] 23 (0, 0)) BK129.out hb)
         have n1_ := Aside0.mk (blk_below (g := gb138) (o := .cells #[.int .i64 t133, .int .i64 t134, .int .i64 t135, .bool t136] 39 (0, 0)) BK138.out hb)
         have n2_ := Aside0.mk (blk_below (g := gb144) (o := .cells #[.int .i64 t139, .int .i64 t140, .int .i64 t141, .bool t142] 39 (0, 0)) BK144.out hb)
         have n3_ := Aside0.mk (blk_below (g := gb147) (o := .cells #[.int .i64 0, .int .i64 0] 23 (0, 0)) BK147.out hb)
         have n4_ := Aside0.mk (below_step (by with_reducible repeat first | exact HB.out | apply ba | apply bn | apply bd | refine bs ?_ GE129.out | refine bs ?_ GE138.out | refine bs ?_ GE144.out | refine bs ?_ GE147.out) hb)
         clear BK129
         clear BK138
         clear BK144
         clear BK147
         clear HB
         have BK129 := n0_
         have BK138 := n1_
         have BK144 := n2_
         have BK147 := n3_
         have HB := n4_
         clear n0_ n1_ n2_ n3_ n4_
         (try clear hb)
         (try clear hb2)
         (try clear hk)
         (try clear hi)
         refine hK.out _ _ ⟨(blk_cell BK144.out 0).trans rfl, (blk_cell BK144.out 1).trans rfl, (blk_cell BK144.out 2).trans rfl, (blk_cell BK144.out 3).trans rfl, (blk_cell BK138.out 0).trans rfl, (blk_cell BK138.out 1).trans rfl, (blk_cell BK138.out 2).trans rfl, (blk_cell BK138.out 3).trans rfl⟩ (fun hHeld => ?_)
         clear hK K
         refine norm_ (a' := ?_) ?_ ?_
         rotate_left
         ·show Act.put _ (some 36) _ = _
          simp only [Act.put, s1, s2, s3, i64_w, i32_w]
          rfl
         refine one_ (i := 3) (N := some 38) #[true, true, true, true, false, true, false] rfl rfl (by kernel_rfl) (by decide) (fun K hK => ?_)
         refine goes_ Try.func23 (by kernel_rfl) rfl #[.agg #[.int .i64 t133, .int .i64 t134, .int .i64 t135, .bool t136]] (by rfl) rfl rfl (by (try simp only [List.map_toArray, List.map_cons, List.map_nil]); first | done | rfl | (simp only [List.length_drop, List.length_take]; rfl)) ?_
         with_reducible refine (sphere_angle_value.calls t133 t134 t135 t136 t146 _ A22.out).mono ?_
         rintro e w53 ⟨rfl, hb⟩
         refine ⟨_, rfl, ?_⟩
         have n0_ := Aside0.mk (blk_below (g := gb129) (o := .cells #[.int .i64 0, .int .i64 0] 23 (0, 0)) BK129.out hb)
         have n1_ := Aside0.mk (blk_below (g := gb138) (o := .cells #[.int .i64 t133, .int .i64 t134, .int .i64 t135, .bool t136] 39 (0, 0)) BK138.out hb)
         have n2_ := Aside0.mk (blk_below (g := gb144) (o := .cells #[.int .i64 t139, .int .i64 t140, .int .i64 t141, .bool t142] 39 (0, 0)) BK144.out hb)
         have n3_ := Aside0.mk (blk_below (g := gb147) (o := .cells #[.int .i64 0, .int .i64 0] 23 (0, 0)) BK147.out hb)
         have n4_ := Aside0.mk (below_step (by with_reducible repeat first | exact HB.out | apply ba | apply bn | apply bd | refine bs ?_ GE129.out | refine bs ?_ GE138.out | refine bs ?_ GE144.out | refine bs ?_ GE147.out) hb)
         clear BK129
         clear BK138
         clear BK144
         clear BK147
         clear HB
         have BK129 := n0_
         have BK138 := n1_
         have BK144 := n2_
         have BK147 := n3_
         have HB := n4_
         clear n0_ n1_ n2_ n3_ n4_
         (try clear hb)
         (try clear hb2)
         (try clear hk)
         (try clear hi)
         refine hK.out _ _ ⟨(blk_cell BK144.out 0).trans rfl, (blk_cell BK144.out 1).trans rfl, (blk_cell BK144.out 2).trans rfl, (blk_cell BK144.out 3).trans rfl, (blk_cell BK138.out 0).trans rfl, (blk_cell BK138.out 1).trans rfl, (blk_cell BK138.out 2).trans rfl, (blk_cell BK138.out 3).trans rfl⟩ (fun hHeld => ?_)
         clear hK K
         refine norm_ (a' := ?_) ?_ ?_
         rotate_left
         ·show Act.put _ (some 38) _ = _
          simp only [Act.put, s1, s2, s3, i64_w, i32_w]
          rfl
         refine pure_ (i := 4) (N := some 39) (v := ?_) (a' := ?_) #[true, true, true, true, true, true, false] rfl rfl (by kernel_rfl) (fun _ _ _ h => h) (Or.inl ⟨by rfl, ?_⟩) ?_ ?_
         rotate_left
         ·intro w'
          go_simp
          with_reducible rfl
         rotate_left
         ·simp only [Act.put, s1, s2, s3, i64_w, i32_w]
          rfl
         exact norm_ (by simp only [putAll, Act.put, s1, s2, s3]) (hCont (gb147) _ ⟨hHeld, BK129.out, BK138.out, BK144.out, BK147.out, GW147.out, GE147.out, NB129_147.out, NB147_129.out, NB138_147.out, NB147_138.out, NB144_147.out, NB147_144.out, (by with_reducible repeat first | exact HB.out | apply ba | apply bn | apply bd | refine bs ?_ GE129.out | refine bs ?_ GE138.out | refine bs ?_ GE144.out | refine bs ?_ GE147.out)⟩)
       rintro gb147 w54 ⟨hS_, h0_, h1_, h2_, h3_, h4_, h5_, h6_, h7_, h8_, h9_, h10_, h11_, h12_⟩
       have n0_ : Aside0 (w54.heap[gb129]? = some (.cells #[.int .i64 0, .int .i64 0] 23 (0, 0))) := ⟨h0_⟩
       have n1_ : Aside0 (w54.heap[gb138]? = some (.cells #[.int .i64 t133, .int .i64 t134, .int .i64 t135, .bool t136] 39 (0, 0))) := ⟨h1_⟩
       have n2_ : Aside0 (w54.heap[gb144]? = some (.cells #[.int .i64 t139, .int .i64 t140, .int .i64 t141, .bool t142] 39 (0, 0))) := ⟨h2_⟩
       have n3_ : Aside0 (w54.heap[gb147]? = some (.cells #[.int .i64 0, .int .i64 0] 23 (0, 0))) := ⟨h3_⟩
       have n4_ : Aside0 (w.heap.size ≤ gb147) := ⟨h4_⟩
       have n5_ : Aside0 (w.heap.size ≤ gb147) := ⟨h5_⟩
       have n6_ : Aside0 (gb129 ≠ gb147) := ⟨h6_⟩
       have n7_ : Aside0 (gb147 ≠ gb129) := ⟨h7_⟩
       have n8_ : Aside0 (gb138 ≠ gb147) := ⟨h8_⟩
       have n9_ : Aside0 (gb147 ≠ gb138) := ⟨h9_⟩
       have n10_ : Aside0 (gb144 ≠ gb147) := ⟨h10_⟩
       have n11_ : Aside0 (gb147 ≠ gb144) := ⟨h11_⟩
       have n12_ : Aside0 (Below w.heap.size w w54) := ⟨h12_⟩
       clear BK129
       clear BK138
       clear BK144
       clear HB
       clear h0_ h1_ h2_ h3_ h4_ h5_ h6_ h7_ h8_ h9_ h10_ h11_ h12_
       have BK129 := n0_
       have BK138 := n1_
       have BK144 := n2_
       have BK147 := n3_
       have GW147 := n4_
       have GE147 := n5_
       have NB129_147 := n6_
       have NB147_129 := n7_
       have NB138_147 := n8_
       have NB147_138 := n9_
       have NB144_147 := n10_
       have NB147_144 := n11_
       have HB := n12_
       clear n0_ n1_ n2_ n3_ n4_ n5_ n6_ n7_ n8_ n9_ n10_ n11_ n12_
       have hHeld : w54.cell? ⟨gb144, 0, none⟩ = some (.int .i64 t139) ∧ w54.cell? ⟨gb144, 1, none⟩ = some (.int .i64 t140) ∧ w54.cell? ⟨gb144, 2, none⟩ = some (.int .i64 t141) ∧ w54.cell? ⟨gb144, 3, none⟩ = some (.bool t142) ∧ w54.cell? ⟨gb138, 0, none⟩ = some (.int .i64 t133) ∧ w54.cell? ⟨gb138, 1, none⟩ = some (.int .i64 t134) ∧ w54.cell? ⟨gb138, 2, none⟩ = some (.int .i64 t135) ∧ w54.cell? ⟨gb138, 3, none⟩ = some (.bool t136) := hS_
       refine norm_ (a' := ?_) ?_ ?_
       rotate_left
       ·simp only [putAll, Act.put, s1, s2, s3]
        rfl
       refine one_ (i := 6) (N := none) #[true, true, true, true, true, true, true] rfl rfl (by kernel_rfl) (by decide) (fun K hK => ?_)
       have hs55 : w54.cell? ⟨gb147, 0, none⟩ = some (.int .i64 0) := (blk_cell BK147.out 0).trans rfl
       have hfs55 := blk_frozen BK147.out 0
       have hns55_0 := NB129_147.out
       have hns55_1 := NB138_147.out
       have hns55_2 := NB144_147.out
       have hms55_0 := NB147_129.out
       have hms55_1 := NB147_138.out
       have hms55_2 := NB147_144.out
       have hs56 : w54.cell? ⟨gb147, 1, none⟩ = some (.int .i64 0) := (blk_cell BK147.out 1).trans rfl
       have hfs56 := blk_frozen BK147.out 1
       have hns56_0 := NB129_147.out
       have hns56_1 := NB138_147.out
       have hns56_2 := NB144_147.out
       have hms56_0 := NB147_129.out
       have hms56_1 := NB147_138.out
       have hms56_2 := NB147_144.out
       refine skip_ (w1 := ?_) (by rfl) rfl ?_ ?_
       rotate_left
       ·go_simp
        rfl
       refine hK.out _ _ ⟨((cell_far (p := ⟨gb147, _, none⟩) NB144_147.out _).trans (((cell_far (p := ⟨gb147, _, none⟩) NB144_147.out _).trans (hHeld.1)))), ((cell_far (p := ⟨gb147, _, none⟩) NB144_147.out _).trans (((cell_far (p := ⟨gb147, _, none⟩) NB144_147.out _).trans (hHeld.2.1)))), ((cell_far (p := ⟨gb147, _, none⟩) NB144_147.out _).trans (((cell_far (p := ⟨gb147, _, none⟩) NB144_147.out _).trans (hHeld.2.2.1)))), ((cell_far (p := ⟨gb147, _, none⟩) NB144_147.out _).trans (((cell_far (p := ⟨gb147, _, none⟩) NB144_147.out _).trans (hHeld.2.2.2.1)))), ((cell_far (p := ⟨gb147, _, none⟩) NB138_147.out _).trans (((cell_far (p := ⟨gb147, _, none⟩) NB138_147.out _).trans (hHeld.2.2.2.2.1)))), ((cell_far (p := ⟨gb147, _, none⟩) NB138_147.out _).trans (((cell_far (p := ⟨gb147, _, none⟩) NB138_147.out _).trans (hHeld.2.2.2.2.2.1)))), ((cell_far (p := ⟨gb147, _, none⟩) NB138_147.out _).trans (((cell_far (p := ⟨gb147, _, none⟩) NB138_147.out _).trans (hHeld.2.2.2.2.2.2.1)))), ((cell_far (p := ⟨gb147, _, none⟩) NB138_147.out _).trans (((cell_far (p := ⟨gb147, _, none⟩) NB138_147.out _).trans (hHeld.2.2.2.2.2.2.2))))⟩ (fun hHeld => ?_)
       clear hK K
       refine done_ (by kernel_rfl) ?_
       have hnb57 := NB144_129.out
       have hnc57 := NB129_144.out
       have hnb58 := NB144_138.out
       have hnc58 := NB138_144.out
       have hnb59 := NB144_147.out
       have hnc59 := NB147_144.out
       have hcz60_0 : w54.cell? ⟨gb144, 0, none⟩ = some (.int .i64 t139) := (blk_cell BK144.out 0).trans rfl
       have hcz60_1 : w54.cell? ⟨gb144, 1, none⟩ = some (.int .i64 t140) := (blk_cell BK144.out 1).trans rfl
       have hcz60_2 : w54.cell? ⟨gb144, 2, none⟩ = some (.int .i64 t141) := (blk_cell BK144.out 2).trans rfl
       have hcz60_3 : w54.cell? ⟨gb144, 3, none⟩ = some (.bool t142) := (blk_cell BK144.out 3).trans rfl
       have hfz60_0 := blk_frozen BK144.out 0
       have hfz60_1 := blk_frozen BK144.out 1
       have hfz60_2 := blk_frozen BK144.out 2
       have hfz60_3 := blk_frozen BK144.out 3
       try go_wp2_with (first | ((with_reducible refine gate_callee (f := 24) rfl ?_); refine goesL_ (some 41) rfl rfl Try.func24 (by kernel_rfl) rfl #[.agg #[.int .i64 t139, .int .i64 t140, .int .i64 t141, .bool t142]] rfl (by (try simp only [List.map_toArray, List.map_cons, List.map_nil]); first | done | rfl | (simp only [List.length_drop, List.length_take]; rfl)) ?_; (with_reducible refine (sphere_angle_fits.calls t139 t140 t141 t142 true _ A23.out).mono ?_); rintro e w61 ⟨rfl, hb⟩; refine ⟨_, rfl, ?_⟩; have n0_ := Aside0.mk (blk_below (g := gb129) (o := .cells #[.int .i64 0, .int .i64 0] 23 (0, 0)) (by (with_reducible repeat first | refine n_ ?_ _ | refine d_ ?_ | refine a_ ?_ _); refine blk_far ?_ NB129_147.out _; (with_reducible repeat first | refine n_ ?_ _ | refine d_ ?_ | refine a_ ?_ _); refine blk_far ?_ NB129_147.out _; (with_reducible repeat first | refine n_ ?_ _ | refine d_ ?_ | refine a_ ?_ _); exact BK129.out) hb); have n1_ := Aside0.mk (blk_below (g := gb138) (o := .cells #[.int .i64 t133, .int .i64 t134, .int .i64 t135, .bool t136] 39 (0, 0)) (by (with_reducible repeat first | refine n_ ?_ _ | refine d_ ?_ | refine a_ ?_ _); refine blk_far ?_ NB138_147.out _; (with_reducible repeat first | refine n_ ?_ _ | refine d_ ?_ | refine a_ ?_ _); refine blk_far ?_ NB138_147.out _; (with_reducible repeat first | refine n_ ?_ _ | refine d_ ?_ | refine a_ ?_ _); exact BK138.out) hb); have n2_ := Aside0.mk (blk_below (g := gb144) (o := .cells #[.int .i64 t139, .int .i64 t140, .int .i64 t141, .bool t142] 39 (0, 0)) (by (with_reducible repeat first | refine n_ ?_ _ | refine d_ ?_ | refine a_ ?_ _); refine blk_far ?_ NB144_147.out _; (with_reducible repeat first | refine n_ ?_ _ | refine d_ ?_ | refine a_ ?_ _); refine blk_far ?_ NB144_147.out _; (with_reducible repeat first | refine n_ ?_ _ | refine d_ ?_ | refine a_ ?_ _); exact BK144.out) hb); have n3_ := Aside0.mk (blk_below (g := gb147) (o := .cells #[.int .i64 t145, .int .i64 t146] 23 (0, 0)) (by (with_reducible repeat first | refine n_ ?_ _ | refine d_ ?_ | refine a_ ?_ _); refine blk_put (cs := #[.int .i64 t145, .int .i64 0]) ?_ 1 _ rfl; (with_reducible repeat first | refine n_ ?_ _ | refine d_ ?_ | refine a_ ?_ _); refine blk_put (cs := #[.int .i64 0, .int .i64 0]) ?_ 0 _ rfl; (with_reducible repeat first | refine n_ ?_ _ | refine d_ ?_ | refine a_ ?_ _); exact BK147.out) hb); have n4_ := Aside0.mk (below_step (by with_reducible repeat first | exact HB.out | apply ba | apply bn | apply bd | refine bs ?_ GE129.out | refine bs ?_ GE138.out | refine bs ?_ GE144.out | refine bs ?_ GE147.out) hb); clear BK129; clear BK138; clear BK144; clear BK147; clear HB; have BK129 := n0_; have BK138 := n1_; have BK144 := n2_; have BK147 := n3_; have HB := n4_; clear n0_ n1_ n2_ n3_ n4_; (try clear hb); (try clear hb2); (try clear hk); (try clear hi); have hnb62 := NB138_129.out; have hnc62 := NB129_138.out; have hnb63 := NB138_147.out; have hnc63 := NB147_138.out; have hcz64_0 : w61.cell? ⟨gb138, 0, none⟩ = some (.int .i64 t133) := (blk_cell BK138.out 0).trans rfl; have hcz64_1 : w61.cell? ⟨gb138, 1, none⟩ = some (.int .i64 t134) := (blk_cell BK138.out 1).trans rfl; have hcz64_2 : w61.cell? ⟨gb138, 2, none⟩ = some (.int .i64 t135) := (blk_cell BK138.out 2).trans rfl; have hcz64_3 : w61.cell? ⟨gb138, 3, none⟩ = some (.bool t136) := (blk_cell BK138.out 3).trans rfl; have hfz64_0 := blk_frozen BK138.out 0; have hfz64_1 := blk_frozen BK138.out 1; have hfz64_2 := blk_frozen BK138.out 2; have hfz64_3 := blk_frozen BK138.out 3) | (go_at_call 24; (with_reducible refine (sphere_angle_fits.calls t133 t134 t135 t136 true _ A25.out).mono ?_); rintro e w65 ⟨rfl, hb⟩; have n0_ := Aside0.mk (blk_below (g := gb129) (o := .cells #[.int .i64 0, .int .i64 0] 23 (0, 0)) BK129.out hb); have n1_ := Aside0.mk (blk_below (g := gb138) (o := .cells #[.int .i64 t133, .int .i64 t134, .int .i64 t135, .bool t136] 39 (0, 0)) BK138.out hb); have n2_ := Aside0.mk (blk_below (g := gb144) (o := .cells #[.int .i64 t139, .int .i64 t140, .int .i64 t141, .bool t142] 39 (0, 0)) BK144.out hb); have n3_ := Aside0.mk (blk_below (g := gb147) (o := .cells #[.int .i64 t145, .int .i64 t146] 23 (0, 0)) BK147.out hb); have n4_ := Aside0.mk (below_step (by with_reducible repeat first | exact HB.out | apply ba | apply bn | apply bd | refine bs ?_ GE129.out | refine bs ?_ GE138.out | refine bs ?_ GE144.out | refine bs ?_ GE147.out) hb); clear BK129; clear BK138; clear BK144; clear BK147; clear HB; have BK129 := n0_; have BK138 := n1_; have BK144 := n2_; have BK147 := n3_; have HB := n4_; clear n0_ n1_ n2_ n3_ n4_; (try clear hb); (try clear hb2); (try clear hk); (try clear hi); have hnb66 := NB147_129.out; have hnc66 := NB129_147.out; have hcz67_0 : w65.cell? ⟨gb147, 0, none⟩ = some (.int .i64 t145) := (blk_cell BK147.out 0).trans rfl; have hcz67_1 : w65.cell? ⟨gb147, 1, none⟩ = some (.int .i64 t146) := (blk_cell BK147.out 1).trans rfl; have hfz67_0 := blk_frozen BK147.out 0; have hfz67_1 := blk_frozen BK147.out 1) | (go_at_call 10; (with_reducible refine (sphere_Valid.calls t145 t146 false _ A27.out).mono ?_); rintro e w68 ⟨rfl, hb⟩; have n0_ := Aside0.mk (blk_below (g := gb129) (o := .cells #[.int .i64 0, .int .i64 0] 23 (0, 0)) BK129.out hb); have n1_ := Aside0.mk (blk_below (g := gb138) (o := .cells #[.int .i64 t133, .int .i64 t134, .int .i64 t135, .bool t136] 39 (0, 0)) BK138.out hb); have n2_ := Aside0.mk (blk_below (g := gb144) (o := .cells #[.int .i64 t139, .int .i64 t140, .int .i64 t141, .bool t142] 39 (0, 0)) BK144.out hb); have n3_ := Aside0.mk (blk_below (g := gb147) (o := .cells #[.int .i64 t145, .int .i64 t146] 23 (0, 0)) BK147.out hb); have n4_ := Aside0.mk (below_step (by with_reducible repeat first | exact HB.out | apply ba | apply bn | apply bd | refine bs ?_ GE129.out | refine bs ?_ GE138.out | refine bs ?_ GE144.out | refine bs ?_ GE147.out) hb); clear BK129; clear BK138; clear BK144; clear BK147; clear HB; have BK129 := n0_; have BK138 := n1_; have BK144 := n2_; have BK147 := n3_; have HB := n4_; clear n0_ n1_ n2_ n3_ n4_; (try clear hb); (try clear hb2); (try clear hk); (try clear hi); have hcz69_0 : w68.cell? ⟨gb129, 0, none⟩ = some (.int .i64 0) := (blk_cell BK129.out 0).trans rfl; have hcz69_1 : w68.cell? ⟨gb129, 1, none⟩ = some (.int .i64 0) := (blk_cell BK129.out 1).trans rfl; have hfz69_0 := blk_frozen BK129.out 0; have hfz69_1 := blk_frozen BK129.out 1))
       refine bodyPost_ret (results_ct rfl _ _ gb129 23 #[.int .i64 0, .int .i64 0] (0, 0) _ rfl (by (with_reducible repeat first | refine n_ ?_ _ | refine d_ ?_ | refine a_ ?_ _); refine blk_put (cs := #[.int .i64 0, .int .i64 0]) ?_ 1 _ rfl; (with_reducible repeat first | refine n_ ?_ _ | refine d_ ?_ | refine a_ ?_ _); refine blk_put (cs := #[.int .i64 0, .int .i64 0]) ?_ 0 _ rfl; (with_reducible repeat first | refine n_ ?_ _ | refine d_ ?_ | refine a_ ?_ _); exact BK129.out) Try.underlying23 rfl (by kernel_rfl)) rfl ?_
       exact ⟨by first | rfl | (simp [errW_none, errW_some] <;> rfl) | (simp [*, errW_none, errW_some] <;> rfl), by with_reducible repeat first | exact HB.out | apply ba | apply bn | apply bd | refine bs ?_ GE129.out | refine bs ?_ GE138.out | refine bs ?_ GE144.out | refine bs ?_ GE147.out⟩
     ·replace c26 := Bool.eq_false_iff.mpr c26
      subst c26
      have H1 : (some (0, 0, 2)) = some (r1, r2, r3) := by rw [if_neg (show ¬ (false = true) by decide)] at H; exact H
      clear H
      have H := H1
      clear H1
      simp only [Option.some.injEq, Prod.mk.injEq] at H
      obtain ⟨rfl, rfl, rfl⟩ := H
      try go_wp2
      have n0_ := Aside0.mk (blk_drew BK129.out)
      have n1_ := Aside0.mk (blk_drew BK138.out)
      have n2_ := Aside0.mk (blk_drew BK144.out)
      have n3_ := Aside0.mk (below_drew1 HB.out)
      clear BK129
      clear BK138
      clear BK144
      clear HB
      have BK129 := n0_
      have BK138 := n1_
      have BK144 := n2_
      have HB := n3_
      clear n0_ n1_ n2_ n3_
      refine start_ (n := 7) (S := fun w' => w'.cell? ⟨gb144, 0, none⟩ = some (.int .i64 t139) ∧ w'.cell? ⟨gb144, 1, none⟩ = some (.int .i64 t140) ∧ w'.cell? ⟨gb144, 2, none⟩ = some (.int .i64 t141) ∧ w'.cell? ⟨gb144, 3, none⟩ = some (.bool t142) ∧ w'.cell? ⟨gb138, 0, none⟩ = some (.int .i64 t133) ∧ w'.cell? ⟨gb138, 1, none⟩ = some (.int .i64 t134) ∧ w'.cell? ⟨gb138, 2, none⟩ = some (.int .i64 t135) ∧ w'.cell? ⟨gb138, 3, none⟩ = some (.bool t136)) (ds := []) #[false, false, false, false, false, false, false] (by kernel_rfl) rfl rfl ⟨(blk_cell BK144.out 0).trans rfl, (blk_cell BK144.out 1).trans rfl, (blk_cell BK144.out 2).trans rfl, (blk_cell BK144.out 3).trans rfl, (blk_cell BK138.out 0).trans rfl, (blk_cell BK138.out 1).trans rfl, (blk_cell BK138.out 2).trans rfl, (blk_cell BK138.out 3).trans rfl⟩ (fun hHeld => ?_)
      generalize wc.drew = w70 at BK129 BK138 BK144 HB hHeld ⊢
      refine take_ (i := 0) (N := some 35) (v := ?_) (a' := ?_) #[true, false, false, false, false, false, false] rfl rfl (by kernel_rfl) (fun _ _ _ h => h) (Or.inl ⟨by rfl, ?_⟩) hHeld ?_ ?_
      rotate_left
      ·rintro w' ⟨s0, s1, s2, s3, s4, s5, s6, s7⟩
       go_simp
       with_reducible rfl
      rotate_left
      ·simp only [Act.put, s1, s2, s3, i64_w, i32_w]
       rfl
      refine take_ (i := 2) (N := some 37) (v := ?_) (a' := ?_) #[true, false, true, false, false, false, false] rfl rfl (by kernel_rfl) (fun _ _ _ h => h) (Or.inl ⟨by rfl, ?_⟩) hHeld ?_ ?_
      rotate_left
      ·rintro w' ⟨s0, s1, s2, s3, s4, s5, s6, s7⟩
       go_simp
       with_reducible rfl
      rotate_left
      ·simp only [Act.put, s1, s2, s3, i64_w, i32_w]
       rfl
      refine join_ (σ := Nat) 1 #[true, true, true, true, true, true, false] (fun s_ => [(36, .int .i64 t145), (38, .int .i64 t146), (11, .pointer (some ⟨s_, 0, none⟩)), (39, .agg #[.int .i64 t145, .int .i64 t146])]) (fun s_ w' => (w'.cell? ⟨gb144, 0, none⟩ = some (.int .i64 t139) ∧ w'.cell? ⟨gb144, 1, none⟩ = some (.int .i64 t140) ∧ w'.cell? ⟨gb144, 2, none⟩ = some (.int .i64 t141) ∧ w'.cell? ⟨gb144, 3, none⟩ = some (.bool t142) ∧ w'.cell? ⟨gb138, 0, none⟩ = some (.int .i64 t133) ∧ w'.cell? ⟨gb138, 1, none⟩ = some (.int .i64 t134) ∧ w'.cell? ⟨gb138, 2, none⟩ = some (.int .i64 t135) ∧ w'.cell? ⟨gb138, 3, none⟩ = some (.bool t136)) ∧ (w'.heap[gb129]? = some (.cells #[.int .i64 0, .int .i64 0] 23 (0, 0))) ∧ (w'.heap[gb138]? = some (.cells #[.int .i64 t133, .int .i64 t134, .int .i64 t135, .bool t136] 39 (0, 0))) ∧ (w'.heap[gb144]? = some (.cells #[.int .i64 t139, .int .i64 t140, .int .i64 t141, .bool t142] 39 (0, 0))) ∧ (w'.heap[s_]? = some (.cells #[.int .i64 0, .int .i64 0] 23 (0, 0))) ∧ (w.heap.size ≤ s_) ∧ (w.heap.size ≤ s_) ∧ (gb129 ≠ s_) ∧ (s_ ≠ gb129) ∧ (gb138 ≠ s_) ∧ (s_ ≠ gb138) ∧ (gb144 ≠ s_) ∧ (s_ ≠ gb144) ∧ (Below w.heap.size w w')) ?_ ?_
      rotate_left
      ·intro hCont
       refine two_ (i := 1) (j := 5) (Ni := some 36) (Nj := some 11) #[true, true, true, false, false, false, false] #[true, false, true, false, false, true, false] rfl rfl rfl rfl (by kernel_rfl) (by decide) (by decide) (fun K hK => ?_) (fun K hK => ?_)
       ·skip
        refine goes_ Try.func23 (by kernel_rfl) rfl #[.agg #[.int .i64 t139, .int .i64 t140, .int .i64 t141, .bool t142]] (by rfl) rfl rfl (by (try simp only [List.map_toArray, List.map_cons, List.map_nil]); first | done | rfl | (simp only [List.length_drop, List.length_take]; rfl)) ?_
        with_reducible refine (sphere_angle_value.calls t139 t140 t141 t142 t145 _ A21.out).mono ?_
        rintro e w71 ⟨rfl, hb⟩
        refine ⟨_, rfl, ?_⟩
        have n0_ := Aside0.mk (blk_below (g := gb129) (o := .cells #[.int .i64 0, .int .i64 0] 23 (0, 0)) BK129.out hb)
        have n1_ := Aside0.mk (blk_below (g := gb138) (o := .cells #[.int .i64 t133, .int .i64 t134, .int .i64 t135, .bool t136] 39 (0, 0)) BK138.out hb)
        have n2_ := Aside0.mk (blk_below (g := gb144) (o := .cells #[.int .i64 t139, .int .i64 t140, .int .i64 t141, .bool t142] 39 (0, 0)) BK144.out hb)
        have n3_ := Aside0.mk (below_step (by with_reducible repeat first | exact HB.out | apply ba | apply bn | apply bd | refine bs ?_ GE129.out | refine bs ?_ GE138.out | refine bs ?_ GE144.out) hb)
        clear BK129
        clear BK138
        clear BK144
        clear HB
        have BK129 := n0_
        have BK138 := n1_
        have BK144 := n2_
        have HB := n3_
        clear n0_ n1_ n2_ n3_
        (try clear hb)
        (try clear hb2)
        (try clear hk)
        (try clear hi)
        refine hK.out _ _ ⟨(blk_cell BK144.out 0).trans rfl, (blk_cell BK144.out 1).trans rfl, (blk_cell BK144.out 2).trans rfl, (blk_cell BK144.out 3).trans rfl, (blk_cell BK138.out 0).trans rfl, (blk_cell BK138.out 1).trans rfl, (blk_cell BK138.out 2).trans rfl, (blk_cell BK138.out 3).trans rfl⟩ (fun hHeld => ?_)
        clear hK K
        refine norm_ (a' := ?_) ?_ ?_
        rotate_left
        ·show Act.put _ (some 36) _ = _
         simp only [Act.put, s1, s2, s3, i64_w, i32_w]
         rfl
        refine two_ (i := 3) (j := 5) (Ni := some 38) (Nj := some 11) #[true, true, true, true, false, false, false] #[true, true, true, false, false, true, false] rfl rfl rfl rfl (by kernel_rfl) (by decide) (by decide) (fun K hK => ?_) (fun K hK => ?_)
        ·skip
         refine goes_ Try.func23 (by kernel_rfl) rfl #[.agg #[.int .i64 t133, .int .i64 t134, .int .i64 t135, .bool t136]] (by rfl) rfl rfl (by (try simp only [List.map_toArray, List.map_cons, List.map_nil]); first | done | rfl | (simp only [List.length_drop, List.length_take]; rfl)) ?_
         with_reducible refine (sphere_angle_value.calls t133 t134 t135 t136 t146 _ A22.out).mono ?_
         rintro e w72 ⟨rfl, hb⟩
         refine ⟨_, rfl, ?_⟩
         have n0_ := Aside0.mk (blk_below (g := gb129) (o := .cells #[.int .i64 0, .int .i64 0] 23 (0, 0)) BK129.out hb)
         have n1_ := Aside0.mk (blk_below (g := gb138) (o := .cells #[.int .i64 t133, .int .i64 t134, .int .i64 t135, .bool t136] 39 (0, 0)) BK138.out hb)
         have n2_ := Aside0.mk (blk_below (g := gb144) (o := .cells #[.int .i64 t139, .int .i64 t140, .int .i64 t141, .bool t142] 39 (0, 0)) BK144.out hb)
         have n3_ := Aside0.mk (below_step (by with_reducible repeat first | exact HB.out | apply ba | apply bn | apply bd | refine bs ?_ GE129.out | refine bs ?_ GE138.out | refine bs ?_ GE144.out) hb)
         clear BK129
         clear BK138
         clear BK144
         clear HB
         have BK129 := n0_
         have BK138 := n1_
         have BK144 := n2_
         have HB := n3_
         clear n0_ n1_ n2_ n3_
         (try clear hb)
         (try clear hb2)
         (try clear hk)
         (try clear hi)
         refine hK.out _ _ ⟨(blk_cell BK144.out 0).trans rfl, (blk_cell BK144.out 1).trans rfl, (blk_cell BK144.out 2).trans rfl, (blk_cell BK144.out 3).trans rfl, (blk_cell BK138.out 0).trans rfl, (blk_cell BK138.out 1).trans rfl, (blk_cell BK138.out 2).trans rfl, (blk_cell BK138.out 3).trans rfl⟩ (fun hHeld => ?_)
         clear hK K
         refine norm_ (a' := ?_) ?_ ?_
         rotate_left
         ·show Act.put _ (some 38) _ = _
          simp only [Act.put, s1, s2, s3, i64_w, i32_w]
          rfl
         refine pure_ (i := 4) (N := some 39) (v := ?_) (a' := ?_) #[true, true, true, true, true, false, false] rfl rfl (by kernel_rfl) (fun _ _ _ h => h) (Or.inl ⟨by rfl, ?_⟩) ?_ ?_
         rotate_left
         ·intro w'
          go_simp
          with_reducible rfl
         rotate_left
         ·simp only [Act.put, s1, s2, s3, i64_w, i32_w]
          rfl
         refine one_ (i := 5) (N := some 11) #[true, true, true, true, true, true, false] rfl rfl (by kernel_rfl) (by decide) (fun K hK => ?_)
         refine box_step ?hg (N := 11) ?hd (cs := #[.int .i64 0, .int .i64 0]) (t := 23) ?hr ?_; (case hd => rfl); (case hg => rfl); (case hr => first | (go_simp; done) | (go_simp; rfl))
         intro gb147 hg w73 hbox hb
         have n0_ := Aside0.mk (blk_below (g := gb129) (o := .cells #[.int .i64 0, .int .i64 0] 23 (0, 0)) BK129.out hb)
         have n1_ := Aside0.mk (blk_below (g := gb138) (o := .cells #[.int .i64 t133, .int .i64 t134, .int .i64 t135, .bool t136] 39 (0, 0)) BK138.out hb)
         have n2_ := Aside0.mk (blk_below (g := gb144) (o := .cells #[.int .i64 t139, .int .i64 t140, .int .i64 t141, .bool t142] 39 (0, 0)) BK144.out hb)
         have n3_ := Aside0.mk (below_step (by with_reducible repeat first | exact HB.out | apply ba | apply bn | apply bd | refine bs ?_ GE129.out | refine bs ?_ GE138.out | refine bs ?_ GE144.out) hb)
         have n4_ := Aside0.mk (hbox)
         have n5_ := Aside0.mk ((by rw [hg]; exact (below_size (by with_reducible repeat first | exact HB.out | apply ba | apply bn | apply bd | refine bs ?_ GE129.out | refine bs ?_ GE138.out | refine bs ?_ GE144.out)) : w.heap.size ≤ gb147))
         have n6_ := Aside0.mk ((by rw [hg]; exact (below_size (by with_reducible repeat first | exact HB.out | apply ba | apply bn | apply bd | refine bs ?_ GE129.out | refine bs ?_ GE138.out | refine bs ?_ GE144.out)) : w.heap.size ≤ gb147))
         have n7_ := Aside0.mk ((by rw [hg]; exact Nat.ne_of_lt (blk_lt (g := gb129) (o := .cells #[.int .i64 0, .int .i64 0] 23 (0, 0)) BK129.out) : gb129 ≠ gb147))
         have n8_ := Aside0.mk ((by rw [hg]; exact Nat.ne_of_gt (blk_lt (g := gb129) (o := .cells #[.int .i64 0, .int .i64 0] 23 (0, 0)) BK129.out) : gb147 ≠ gb129))
         have n9_ := Aside0.mk ((by rw [hg]; exact Nat.ne_of_lt (blk_lt (g := gb138) (o := .cells #[.int .i64 t133, .int .i64 t134, .int .i64 t135, .bool t136] 39 (0, 0)) BK138.out) : gb138 ≠ gb147))
         have n10_ := Aside0.mk ((by rw [hg]; exact Nat.ne_of_gt (blk_lt (g := gb138) (o := .cells #[.int .i64 t133, .int .i64 t134, .int .i64 t135, .bool t136] 39 (0, 0)) BK138.out) : gb147 ≠ gb138))
         have n11_ := Aside0.mk ((by rw [hg]; exact Nat.ne_of_lt (blk_lt (g := gb144) (o := .cells #[.int .i64 t139, .int .i64 t140, .int .i64 t141, .bool t142] 39 (0, 0)) BK144.out) : gb144 ≠ gb147))
         have n12_ := Aside0.mk ((by rw [hg]; exact Nat.ne_of_gt (blk_lt (g := gb144) (o := .cells #[.int .i64 t139, .int .i64 t140, .int .i64 t141, .bool t142] 39 (0, 0)) BK144.out) : gb147 ≠ gb144))
         clear BK129
         clear BK138
         clear BK144
         clear HB
         have BK129 := n0_
         have BK138 := n1_
         have BK144 := n2_
         have HB := n3_
         have BK147 := n4_
         have GW147 := n5_
         have GE147 := n6_
         have NB129_147 := n7_
         have NB147_129 := n8_
         have NB138_147 := n9_
         have NB147_138 := n10_
         have NB144_147 := n11_
         have NB147_144 := n12_
         clear n0_ n1_ n2_ n3_ n4_ n5_ n6_ n7_ n8_ n9_ n10_ n11_ n12_
         clear hb hbox hg
         refine hK.out _ _ ⟨(blk_cell BK144.out 0).trans rfl, (blk_cell BK144.out 1).trans rfl, (blk_cell BK144.out 2).trans rfl, (blk_cell BK144.out 3).trans rfl, (blk_cell BK138.out 0).trans rfl, (blk_cell BK138.out 1).trans rfl, (blk_cell BK138.out 2).trans rfl, (blk_cell BK138.out 3).trans rfl⟩ (fun hHeld => ?_)
         clear hK K
         refine norm_ (a' := ?_) ?_ ?_
         rotate_left
         ·show Act.put _ (some 11) _ = _
          simp only [Act.put, s1, s2, s3, i64_w, i32_w]
          rfl
         exact norm_ (by simp only [putAll, Act.put, s1, s2, s3]) (hCont (gb147) _ ⟨hHeld, BK129.out, BK138.out, BK144.out, BK147.out, GW147.out, GE147.out, NB129_147.out, NB147_129.out, NB138_147.out, NB147_138.out, NB144_147.out, NB147_144.out, (by with_reducible repeat first | exact HB.out | apply ba | apply bn | apply bd | refine bs ?_ GE129.out | refine bs ?_ GE138.out | refine bs ?_ GE144.out | refine bs ?_ GE147.out)⟩)
        ·skip
         refine box_step ?hg (N := 11) ?hd (cs := #[.int .i64 0, .int .i64 0]) (t := 23) ?hr ?_; (case hd => rfl); (case hg => rfl); (case hr => first | (go_simp; done) | (go_simp; rfl))
         intro gb147 hg w72 hbox hb
         have n0_ := Aside0.mk (blk_below (g := gb129) (o := .cells #[.int .i64 0, .int .i64 0] 23 (0, 0)) BK129.out hb)
         have n1_ := Aside0.mk (blk_below (g := gb138) (o := .cells #[.int .i64 t133, .int .i64 t134, .int .i64 t135, .bool t136] 39 (0, 0)) BK138.out hb)
         have n2_ := Aside0.mk (blk_below (g := gb144) (o := .cells #[.int .i64 t139, .int .i64 t140, .int .i64 t141, .bool t142] 39 (0, 0)) BK144.out hb)
         have n3_ := Aside0.mk (below_step (by with_reducible repeat first | exact HB.out | apply ba | apply bn | apply bd | refine bs ?_ GE129.out | refine bs ?_ GE138.out | refine bs ?_ GE144.out) hb)
         have n4_ := Aside0.mk (hbox)
         have n5_ := Aside0.mk ((by rw [hg]; exact (below_size (by with_reducible repeat first | exact HB.out | apply ba | apply bn | apply bd | refine bs ?_ GE129.out | refine bs ?_ GE138.out | refine bs ?_ GE144.out)) : w.heap.size ≤ gb147))
         have n6_ := Aside0.mk ((by rw [hg]; exact (below_size (by with_reducible repeat first | exact HB.out | apply ba | apply bn | apply bd | refine bs ?_ GE129.out | refine bs ?_ GE138.out | refine bs ?_ GE144.out)) : w.heap.size ≤ gb147))
         have n7_ := Aside0.mk ((by rw [hg]; exact Nat.ne_of_lt (blk_lt (g := gb129) (o := .cells #[.int .i64 0, .int .i64 0] 23 (0, 0)) BK129.out) : gb129 ≠ gb147))
         have n8_ := Aside0.mk ((by rw [hg]; exact Nat.ne_of_gt (blk_lt (g := gb129) (o := .cells #[.int .i64 0, .int .i64 0] 23 (0, 0)) BK129.out) : gb147 ≠ gb129))
         have n9_ := Aside0.mk ((by rw [hg]; exact Nat.ne_of_lt (blk_lt (g := gb138) (o := .cells #[.int .i64 t133, .int .i64 t134, .int .i64 t135, .bool t136] 39 (0, 0)) BK138.out) : gb138 ≠ gb147))
         have n10_ := Aside0.mk ((by rw [hg]; exact Nat.ne_of_gt (blk_lt (g := gb138) (o := .cells #[.int .i64 t133, .int .i64 t134, .int .i64 t135, .bool t136] 39 (0, 0)) BK138.out) : gb147 ≠ gb138))
         have n11_ := Aside0.mk ((by rw [hg]; exact Nat.ne_of_lt (blk_lt (g := gb144) (o := .cells #[.int .i64 t139, .int .i64 t140, .int .i64 t141, .bool t142] 39 (0, 0)) BK144.out) : gb144 ≠ gb147))
         have n12_ := Aside0.mk ((by rw [hg]; exact Nat.ne_of_gt (blk_lt (g := gb144) (o := .cells #[.int .i64 t139, .int .i64 t140, .int .i64 t141, .bool t142] 39 (0, 0)) BK144.out) : gb147 ≠ gb144))
         clear BK129
         clear BK138
         clear BK144
         clear HB
         have BK129 := n0_
         have BK138 := n1_
         have BK144 := n2_
         have HB := n3_
         have BK147 := n4_
         have GW147 := n5_
         have GE147 := n6_
         have NB129_147 := n7_
         have NB147_129 := n8_
         have NB138_147 := n9_
         have NB147_138 := n10_
         have NB144_147 := n11_
         have NB147_144 := n12_
         clear n0_ n1_ n2_ n3_ n4_ n5_ n6_ n7_ n8_ n9_ n10_ n11_ n12_
         clear hb hbox hg
         refine hK.out _ _ ⟨(blk_cell BK144.out 0).trans rfl, (blk_cell BK144.out 1).trans rfl, (blk_cell BK144.out 2).trans rfl, (blk_cell BK144.out 3).trans rfl, (blk_cell BK138.out 0).trans rfl, (blk_cell BK138.out 1).trans rfl, (blk_cell BK138.out 2).trans rfl, (blk_cell BK138.out 3).trans rfl⟩ (fun hHeld => ?_)
         clear hK K
         refine norm_ (a' := ?_) ?_ ?_
         rotate_left
         ·show Act.put _ (some 11) _ = _
          simp only [Act.put, s1, s2, s3, i64_w, i32_w]
          rfl
         refine one_ (i := 3) (N := some 38) #[true, true, true, true, false, true, false] rfl rfl (by kernel_rfl) (by decide) (fun K hK => ?_)
         refine goes_ Try.func23 (by kernel_rfl) rfl #[.agg #[.int .i64 t133, .int .i64 t134, .int .i64 t135, .bool t136]] (by rfl) rfl rfl (by (try simp only [List.map_toArray, List.map_cons, List.map_nil]); first | done | rfl | (simp only [List.length_drop, List.length_take]; rfl)) ?_
         with_reducible refine (sphere_angle_value.calls t133 t134 t135 t136 t146 _ A22.out).mono ?_
         rintro e w73 ⟨rfl, hb⟩
         refine ⟨_, rfl, ?_⟩
         have n0_ := Aside0.mk (blk_below (g := gb129) (o := .cells #[.int .i64 0, .int .i64 0] 23 (0, 0)) BK129.out hb)
         have n1_ := Aside0.mk (blk_below (g := gb138) (o := .cells #[.int .i64 t133, .int .i64 t134, .int .i64 t135, .bool t136] 39 (0, 0)) BK138.out hb)
         have n2_ := Aside0.mk (blk_below (g := gb144) (o := .cells #[.int .i64 t139, .int .i64 t140, .int .i64 t141, .bool t142] 39 (0, 0)) BK144.out hb)
         have n3_ := Aside0.mk (blk_below (g := gb147) (o := .cells #[.int .i64 0, .int .i64 0] 23 (0, 0)) BK147.out hb)
         have n4_ := Aside0.mk (below_step (by with_reducible repeat first | exact HB.out | apply ba | apply bn | apply bd | refine bs ?_ GE129.out | refine bs ?_ GE138.out | refine bs ?_ GE144.out | refine bs ?_ GE147.out) hb)
         clear BK129
         clear BK138
         clear BK144
         clear BK147
         clear HB
         have BK129 := n0_
         have BK138 := n1_
         have BK144 := n2_
         have BK147 := n3_
         have HB := n4_
         clear n0_ n1_ n2_ n3_ n4_
         (try clear hb)
         (try clear hb2)
         (try clear hk)
         (try clear hi)
         refine hK.out _ _ ⟨(blk_cell BK144.out 0).trans rfl, (blk_cell BK144.out 1).trans rfl, (blk_cell BK144.out 2).trans rfl, (blk_cell BK144.out 3).trans rfl, (blk_cell BK138.out 0).trans rfl, (blk_cell BK138.out 1).trans rfl, (blk_cell BK138.out 2).trans rfl, (blk_cell BK138.out 3).trans rfl⟩ (fun hHeld => ?_)
         clear hK K
         refine norm_ (a' := ?_) ?_ ?_
         rotate_left
         ·show Act.put _ (some 38) _ = _
          simp only [Act.put, s1, s2, s3, i64_w, i32_w]
          rfl
         refine pure_ (i := 4) (N := some 39) (v := ?_) (a' := ?_) #[true, true, true, true, true, true, false] rfl rfl (by kernel_rfl) (fun _ _ _ h => h) (Or.inl ⟨by rfl, ?_⟩) ?_ ?_
         rotate_left
         ·intro w'
          go_simp
          with_reducible rfl
         rotate_left
         ·simp only [Act.put, s1, s2, s3, i64_w, i32_w]
          rfl
         exact norm_ (by simp only [putAll, Act.put, s1, s2, s3]) (hCont (gb147) _ ⟨hHeld, BK129.out, BK138.out, BK144.out, BK147.out, GW147.out, GE147.out, NB129_147.out, NB147_129.out, NB138_147.out, NB147_138.out, NB144_147.out, NB147_144.out, (by with_reducible repeat first | exact HB.out | apply ba | apply bn | apply bd | refine bs ?_ GE129.out | refine bs ?_ GE138.out | refine bs ?_ GE144.out | refine bs ?_ GE147.out)⟩)
       ·skip
        refine box_step ?hg (N := 11) ?hd (cs := #[.int .i64 0, .int .i64 0]) (t := 23) ?hr ?_; (case hd => rfl); (case hg => rfl); (case hr => first | (go_simp; done) | (go_simp; rfl))
        intro gb147 hg w71 hbox hb
        have n0_ := Aside0.mk (blk_below (g := gb129) (o := .cells #[.int .i64 0, .int .i64 0] 23 (0, 0)) BK129.out hb)
        have n1_ := Aside0.mk (blk_below (g := gb138) (o := .cells #[.int .i64 t133, .int .i64 t134, .int .i64 t135, .bool t136] 39 (0, 0)) BK138.out hb)
        have n2_ := Aside0.mk (blk_below (g := gb144) (o := .cells #[.int .i64 t139, .int .i64 t140, .int .i64 t141, .bool t142] 39 (0, 0)) BK144.out hb)
        have n3_ := Aside0.mk (below_step (by with_reducible repeat first | exact HB.out | apply ba | apply bn | apply bd | refine bs ?_ GE129.out | refine bs ?_ GE138.out | refine bs ?_ GE144.out) hb)
        have n4_ := Aside0.mk (hbox)
        have n5_ := Aside0.mk ((by rw [hg]; exact (below_size (by with_reducible repeat first | exact HB.out | apply ba | apply bn | apply bd | refine bs ?_ GE129.out | refine bs ?_ GE138.out | refine bs ?_ GE144.out)) : w.heap.size ≤ gb147))
        have n6_ := Aside0.mk ((by rw [hg]; exact (below_size (by with_reducible repeat first | exact HB.out | apply ba | apply bn | apply bd | refine bs ?_ GE129.out | refine bs ?_ GE138.out | refine bs ?_ GE144.out)) : w.heap.size ≤ gb147))
        have n7_ := Aside0.mk ((by rw [hg]; exact Nat.ne_of_lt (blk_lt (g := gb129) (o := .cells #[.int .i64 0, .int .i64 0] 23 (0, 0)) BK129.out) : gb129 ≠ gb147))
        have n8_ := Aside0.mk ((by rw [hg]; exact Nat.ne_of_gt (blk_lt (g := gb129) (o := .cells #[.int .i64 0, .int .i64 0] 23 (0, 0)) BK129.out) : gb147 ≠ gb129))
        have n9_ := Aside0.mk ((by rw [hg]; exact Nat.ne_of_lt (blk_lt (g := gb138) (o := .cells #[.int .i64 t133, .int .i64 t134, .int .i64 t135, .bool t136] 39 (0, 0)) BK138.out) : gb138 ≠ gb147))
        have n10_ := Aside0.mk ((by rw [hg]; exact Nat.ne_of_gt (blk_lt (g := gb138) (o := .cells #[.int .i64 t133, .int .i64 t134, .int .i64 t135, .bool t136] 39 (0, 0)) BK138.out) : gb147 ≠ gb138))
        have n11_ := Aside0.mk ((by rw [hg]; exact Nat.ne_of_lt (blk_lt (g := gb144) (o := .cells #[.int .i64 t139, .int .i64 t140, .int .i64 t141, .bool t142] 39 (0, 0)) BK144.out) : gb144 ≠ gb147))
        have n12_ := Aside0.mk ((by rw [hg]; exact Nat.ne_of_gt (blk_lt (g := gb144) (o := .cells #[.int .i64 t139, .int .i64 t140, .int .i64 t141, .bool t142] 39 (0, 0)) BK144.out) : gb147 ≠ gb144))
        clear BK129
        clear BK138
        clear BK144
        clear HB
        have BK129 := n0_
        have BK138 := n1_
        have BK144 := n2_
        have HB := n3_
        have BK147 := n4_
        have GW147 := n5_
        have GE147 := n6_
        have NB129_147 := n7_
        have NB147_129 := n8_
        have NB138_147 := n9_
        have NB147_138 := n10_
        have NB144_147 := n11_
        have NB147_144 := n12_
        clear n0_ n1_ n2_ n3_ n4_ n5_ n6_ n7_ n8_ n9_ n10_ n11_ n12_
        clear hb hbox hg
        refine hK.out _ _ ⟨(blk_cell BK144.out 0).trans rfl, (blk_cell BK144.out 1).trans rfl, (blk_cell BK144.out 2).trans rfl, (blk_cell BK144.out 3).trans rfl, (blk_cell BK138.out 0).trans rfl, (blk_cell BK138.out 1).trans rfl, (blk_cell BK138.out 2).trans rfl, (blk_cell BK138.out 3).trans rfl⟩ (fun hHeld => ?_)
        clear hK K
        refine norm_ (a' := ?_) ?_ ?_
        rotate_left
        ·show Act.put _ (some 11) _ = _
         simp only [Act.put, s1, s2, s3, i64_w, i32_w]
         rfl
        refine one_ (i := 1) (N := some 36) #[true, true, true, false, false, true, false] rfl rfl (by kernel_rfl) (by decide) (fun K hK => ?_)
        refine goes_ Try.func23 (by kernel_rfl) rfl #[.agg #[.int .i64 t139, .int .i64 t140, .int .i64 t141, .bool t142]] (by rfl) rfl rfl (by (try simp only [List.map_toArray, List.map_cons, List.map_nil]); first | done | rfl | (simp only [List.length_drop, List.length_take]; rfl)) ?_
        with_reducible refine (sphere_angle_value.calls t139 t140 t141 t142 t145 _ A21.out).mono ?_
        rintro e w72 ⟨rfl, hb⟩
        refine ⟨_, rfl, ?_⟩
        have n0_ := Aside0.mk (blk_below (g := gb129) (o := .cells #[.int .i64 0, .int .i64 0] 23 (0, 0)) BK129.out hb)
        have n1_ := Aside0.mk (blk_below (g := gb138) (o := .cells #[.int .i64 t133, .int .i64 t134, .int .i64 t135, .bool t136] 39 (0, 0)) BK138.out hb)
        have n2_ := Aside0.mk (blk_below (g := gb144) (o := .cells #[.int .i64 t139, .int .i64 t140, .int .i64 t141, .bool t142] 39 (0, 0)) BK144.out hb)
        have n3_ := Aside0.mk (blk_below (g := gb147) (o := .cells #[.int .i64 0, .int .i64 0] 23 (0, 0)) BK147.out hb)
        have n4_ := Aside0.mk (below_step (by with_reducible repeat first | exact HB.out | apply ba | apply bn | apply bd | refine bs ?_ GE129.out | refine bs ?_ GE138.out | refine bs ?_ GE144.out | refine bs ?_ GE147.out) hb)
        clear BK129
        clear BK138
        clear BK144
        clear BK147
        clear HB
        have BK129 := n0_
        have BK138 := n1_
        have BK144 := n2_
        have BK147 := n3_
        have HB := n4_
        clear n0_ n1_ n2_ n3_ n4_
        (try clear hb)
        (try clear hb2)
        (try clear hk)
        (try clear hi)
        refine hK.out _ _ ⟨(blk_cell BK144.out 0).trans rfl, (blk_cell BK144.out 1).trans rfl, (blk_cell BK144.out 2).trans rfl, (blk_cell BK144.out 3).trans rfl, (blk_cell BK138.out 0).trans rfl, (blk_cell BK138.out 1).trans rfl, (blk_cell BK138.out 2).trans rfl, (blk_cell BK138.out 3).trans rfl⟩ (fun hHeld => ?_)
        clear hK K
        refine norm_ (a' := ?_) ?_ ?_
        rotate_left
        ·show Act.put _ (some 36) _ = _
         simp only [Act.put, s1, s2, s3, i64_w, i32_w]
         rfl
        refine one_ (i := 3) (N := some 38) #[true, true, true, true, false, true, false] rfl rfl (by kernel_rfl) (by decide) (fun K hK => ?_)
        refine goes_ Try.func23 (by kernel_rfl) rfl #[.agg #[.int .i64 t133, .int .i64 t134, .int .i64 t135, .bool t136]] (by rfl) rfl rfl (by (try simp only [List.map_toArray, List.map_cons, List.map_nil]); first | done | rfl | (simp only [List.length_drop, List.length_take]; rfl)) ?_
        with_reducible refine (sphere_angle_value.calls t133 t134 t135 t136 t146 _ A22.out).mono ?_
        rintro e w73 ⟨rfl, hb⟩
        refine ⟨_, rfl, ?_⟩
        have n0_ := Aside0.mk (blk_below (g := gb129) (o := .cells #[.int .i64 0, .int .i64 0] 23 (0, 0)) BK129.out hb)
        have n1_ := Aside0.mk (blk_below (g := gb138) (o := .cells #[.int .i64 t133, .int .i64 t134, .int .i64 t135, .bool t136] 39 (0, 0)) BK138.out hb)
        have n2_ := Aside0.mk (blk_below (g := gb144) (o := .cells #[.int .i64 t139, .int .i64 t140, .int .i64 t141, .bool t142] 39 (0, 0)) BK144.out hb)
        have n3_ := Aside0.mk (blk_below (g := gb147) (o := .cells #[.int .i64 0, .int .i64 0] 23 (0, 0)) BK147.out hb)
        have n4_ := Aside0.mk (below_step (by with_reducible repeat first | exact HB.out | apply ba | apply bn | apply bd | refine bs ?_ GE129.out | refine bs ?_ GE138.out | refine bs ?_ GE144.out | refine bs ?_ GE147.out) hb)
        clear BK129
        clear BK138
        clear BK144
        clear BK147
        clear HB
        have BK129 := n0_
        have BK138 := n1_
        have BK144 := n2_
        have BK147 := n3_
        have HB := n4_
        clear n0_ n1_ n2_ n3_ n4_
        (try clear hb)
        (try clear hb2)
        (try clear hk)
        (try clear hi)
        refine hK.out _ _ ⟨(blk_cell BK144.out 0).trans rfl, (blk_cell BK144.out 1).trans rfl, (blk_cell BK144.out 2).trans rfl, (blk_cell BK144.out 3).trans rfl, (blk_cell BK138.out 0).trans rfl, (blk_cell BK138.out 1).trans rfl, (blk_cell BK138.out 2).trans rfl, (blk_cell BK138.out 3).trans rfl⟩ (fun hHeld => ?_)
        clear hK K
        refine norm_ (a' := ?_) ?_ ?_
        rotate_left
        ·show Act.put _ (some 38) _ = _
         simp only [Act.put, s1, s2, s3, i64_w, i32_w]
         rfl
        refine pure_ (i := 4) (N := some 39) (v := ?_) (a' := ?_) #[true, true, true, true, true, true, false] rfl rfl (by kernel_rfl) (fun _ _ _ h => h) (Or.inl ⟨by rfl, ?_⟩) ?_ ?_
        rotate_left
        ·intro w'
         go_simp
         with_reducible rfl
        rotate_left
        ·simp only [Act.put, s1, s2, s3, i64_w, i32_w]
         rfl
        exact norm_ (by simp only [putAll, Act.put, s1, s2, s3]) (hCont (gb147) _ ⟨hHeld, BK129.out, BK138.out, BK144.out, BK147.out, GW147.out, GE147.out, NB129_147.out, NB147_129.out, NB138_147.out, NB147_138.out, NB144_147.out, NB147_144.out, (by with_reducible repeat first | exact HB.out | apply ba | apply bn | apply bd | refine bs ?_ GE129.out | refine bs ?_ GE138.out | refine bs ?_ GE144.out | refine bs ?_ GE147.out)⟩)
      rintro gb147 w74 ⟨hS_, h0_, h1_, h2_, h3_, h4_, h5_, h6_, h7_, h8_, h9_, h10_, h11_, h12_⟩
      have n0_ : Aside0 (w74.heap[gb129]? = some (.cells #[.int .i64 0, .int .i64 0] 23 (0, 0))) := ⟨h0_⟩
      have n1_ : Aside0 (w74.heap[gb138]? = some (.cells #[.int .i64 t133, .int .i64 t134, .int .i64 t135, .bool t136] 39 (0, 0))) := ⟨h1_⟩
      have n2_ : Aside0 (w74.heap[gb144]? = some (.cells #[.int .i64 t139, .int .i64 t140, .int .i64 t141, .bool t142] 39 (0, 0))) := ⟨h2_⟩
      have n3_ : Aside0 (w74.heap[gb147]? = some (.cells #[.int .i64 0, .int .i64 0] 23 (0, 0))) := ⟨h3_⟩
      have n4_ : Aside0 (w.heap.size ≤ gb147) := ⟨h4_⟩
      have n5_ : Aside0 (w.heap.size ≤ gb147) := ⟨h5_⟩
      have n6_ : Aside0 (gb129 ≠ gb147) := ⟨h6_⟩
      have n7_ : Aside0 (gb147 ≠ gb129) := ⟨h7_⟩
      have n8_ : Aside0 (gb138 ≠ gb147) := ⟨h8_⟩
      have n9_ : Aside0 (gb147 ≠ gb138) := ⟨h9_⟩
      have n10_ : Aside0 (gb144 ≠ gb147) := ⟨h10_⟩
      have n11_ : Aside0 (gb147 ≠ gb144) := ⟨h11_⟩
      have n12_ : Aside0 (Below w.heap.size w w74) := ⟨h12_⟩
      clear BK129
      clear BK138
      clear BK144
      clear HB
      clear h0_ h1_ h2_ h3_ h4_ h5_ h6_ h7_ h8_ h9_ h10_ h11_ h12_
      have BK129 := n0_
      have BK138 := n1_
      have BK144 := n2_
      have BK147 := n3_
      have GW147 := n4_
      have GE147 := n5_
      have NB129_147 := n6_
      have NB147_129 := n7_
      have NB138_147 := n8_
      have NB147_138 := n9_
      have NB144_147 := n10_
      have NB147_144 := n11_
      have HB := n12_
      clear n0_ n1_ n2_ n3_ n4_ n5_ n6_ n7_ n8_ n9_ n10_ n11_ n12_
      have hHeld : w74.cell? ⟨gb144, 0, none⟩ = some (.int .i64 t139) ∧ w74.cell? ⟨gb144, 1, none⟩ = some (.int .i64 t140) ∧ w74.cell? ⟨gb144, 2, none⟩ = some (.int .i64 t141) ∧ w74.cell? ⟨gb144, 3, none⟩ = some (.bool t142) ∧ w74.cell? ⟨gb138, 0, none⟩ = some (.int .i64 t133) ∧ w74.cell? ⟨gb138, 1, none⟩ = some (.int .i64 t134) ∧ w74.cell? ⟨gb138, 2, none⟩ = some (.int .i64 t135) ∧ w74.cell? ⟨gb138, 3, none⟩ = some (.bool t136) := hS_
      refine norm_ (a' := ?_) ?_ ?_
      rotate_left
      ·simp only [putAll, Act.put, s1, s2, s3]
       rfl
      refine one_ (i := 6) (N := none) #[true, true, true, true, true, true, true] rfl rfl (by kernel_rfl) (by decide) (fun K hK => ?_)
      have hs75 : w74.cell? ⟨gb147, 0, none⟩ = some (.int .i64 0) := (blk_cell BK147.out 0).trans rfl
      have hfs75 := blk_frozen BK147.out 0
      have hns75_0 := NB129_147.out
      have hns75_1 := NB138_147.out
      have hns75_2 := NB144_147.out
      have hms75_0 := NB147_129.out
      have hms75_1 := NB147_138.out
      have hms75_2 := NB147_144.out
      have hs76 : w74.cell? ⟨gb147, 1, none⟩ = some (.int .i64 0) := (blk_cell BK147.out 1).trans rfl
      have hfs76 := blk_frozen BK147.out 1
      have hns76_0 := NB129_147.out
      have hns76_1 := NB138_147.out
      have hns76_2 := NB144_147.out
      have hms76_0 := NB147_129.out
      have hms76_1 := NB147_138.out
      have hms76_2 := NB147_144.out
      refine skip_ (w1 := ?_) (by rfl) rfl ?_ ?_
      rotate_left
      ·go_simp
       rfl
      refine hK.out _ _ ⟨((cell_far (p := ⟨gb147, _, none⟩) NB144_147.out _).trans (((cell_far (p := ⟨gb147, _, none⟩) NB144_147.out _).trans (hHeld.1)))), ((cell_far (p := ⟨gb147, _, none⟩) NB144_147.out _).trans (((cell_far (p := ⟨gb147, _, none⟩) NB144_147.out _).trans (hHeld.2.1)))), ((cell_far (p := ⟨gb147, _, none⟩) NB144_147.out _).trans (((cell_far (p := ⟨gb147, _, none⟩) NB144_147.out _).trans (hHeld.2.2.1)))), ((cell_far (p := ⟨gb147, _, none⟩) NB144_147.out _).trans (((cell_far (p := ⟨gb147, _, none⟩) NB144_147.out _).trans (hHeld.2.2.2.1)))), ((cell_far (p := ⟨gb147, _, none⟩) NB138_147.out _).trans (((cell_far (p := ⟨gb147, _, none⟩) NB138_147.out _).trans (hHeld.2.2.2.2.1)))), ((cell_far (p := ⟨gb147, _, none⟩) NB138_147.out _).trans (((cell_far (p := ⟨gb147, _, none⟩) NB138_147.out _).trans (hHeld.2.2.2.2.2.1)))), ((cell_far (p := ⟨gb147, _, none⟩) NB138_147.out _).trans (((cell_far (p := ⟨gb147, _, none⟩) NB138_147.out _).trans (hHeld.2.2.2.2.2.2.1)))), ((cell_far (p := ⟨gb147, _, none⟩) NB138_147.out _).trans (((cell_far (p := ⟨gb147, _, none⟩) NB138_147.out _).trans (hHeld.2.2.2.2.2.2.2))))⟩ (fun hHeld => ?_)
      clear hK K
      refine done_ (by kernel_rfl) ?_
      have hnb77 := NB144_129.out
      have hnc77 := NB129_144.out
      have hnb78 := NB144_138.out
      have hnc78 := NB138_144.out
      have hnb79 := NB144_147.out
      have hnc79 := NB147_144.out
      have hcz80_0 : w74.cell? ⟨gb144, 0, none⟩ = some (.int .i64 t139) := (blk_cell BK144.out 0).trans rfl
      have hcz80_1 : w74.cell? ⟨gb144, 1, none⟩ = some (.int .i64 t140) := (blk_cell BK144.out 1).trans rfl
      have hcz80_2 : w74.cell? ⟨gb144, 2, none⟩ = some (.int .i64 t141) := (blk_cell BK144.out 2).trans rfl
      have hcz80_3 : w74.cell? ⟨gb144, 3, none⟩ = some (.bool t142) := (blk_cell BK144.out 3).trans rfl
      have hfz80_0 := blk_frozen BK144.out 0
      have hfz80_1 := blk_frozen BK144.out 1
      have hfz80_2 := blk_frozen BK144.out 2
      have hfz80_3 := blk_frozen BK144.out 3
      try go_wp2_with (first | ((with_reducible refine gate_callee (f := 24) rfl ?_); refine goesL_ (some 41) rfl rfl Try.func24 (by kernel_rfl) rfl #[.agg #[.int .i64 t139, .int .i64 t140, .int .i64 t141, .bool t142]] rfl (by (try simp only [List.map_toArray, List.map_cons, List.map_nil]); first | done | rfl | (simp only [List.length_drop, List.length_take]; rfl)) ?_; (with_reducible refine (sphere_angle_fits.calls t139 t140 t141 t142 true _ A23.out).mono ?_); rintro e w81 ⟨rfl, hb⟩; refine ⟨_, rfl, ?_⟩; have n0_ := Aside0.mk (blk_below (g := gb129) (o := .cells #[.int .i64 0, .int .i64 0] 23 (0, 0)) (by (with_reducible repeat first | refine n_ ?_ _ | refine d_ ?_ | refine a_ ?_ _); refine blk_far ?_ NB129_147.out _; (with_reducible repeat first | refine n_ ?_ _ | refine d_ ?_ | refine a_ ?_ _); refine blk_far ?_ NB129_147.out _; (with_reducible repeat first | refine n_ ?_ _ | refine d_ ?_ | refine a_ ?_ _); exact BK129.out) hb); have n1_ := Aside0.mk (blk_below (g := gb138) (o := .cells #[.int .i64 t133, .int .i64 t134, .int .i64 t135, .bool t136] 39 (0, 0)) (by (with_reducible repeat first | refine n_ ?_ _ | refine d_ ?_ | refine a_ ?_ _); refine blk_far ?_ NB138_147.out _; (with_reducible repeat first | refine n_ ?_ _ | refine d_ ?_ | refine a_ ?_ _); refine blk_far ?_ NB138_147.out _; (with_reducible repeat first | refine n_ ?_ _ | refine d_ ?_ | refine a_ ?_ _); exact BK138.out) hb); have n2_ := Aside0.mk (blk_below (g := gb144) (o := .cells #[.int .i64 t139, .int .i64 t140, .int .i64 t141, .bool t142] 39 (0, 0)) (by (with_reducible repeat first | refine n_ ?_ _ | refine d_ ?_ | refine a_ ?_ _); refine blk_far ?_ NB144_147.out _; (with_reducible repeat first | refine n_ ?_ _ | refine d_ ?_ | refine a_ ?_ _); refine blk_far ?_ NB144_147.out _; (with_reducible repeat first | refine n_ ?_ _ | refine d_ ?_ | refine a_ ?_ _); exact BK144.out) hb); have n3_ := Aside0.mk (blk_below (g := gb147) (o := .cells #[.int .i64 t145, .int .i64 t146] 23 (0, 0)) (by (with_reducible repeat first | refine n_ ?_ _ | refine d_ ?_ | refine a_ ?_ _); refine blk_put (cs := #[.int .i64 t145, .int .i64 0]) ?_ 1 _ rfl; (with_reducible repeat first | refine n_ ?_ _ | refine d_ ?_ | refine a_ ?_ _); refine blk_put (cs := #[.int .i64 0, .int .i64 0]) ?_ 0 _ rfl; (with_reducible repeat first | refine n_ ?_ _ | refine d_ ?_ | refine a_ ?_ _); exact BK147.out) hb); have n4_ := Aside0.mk (below_step (by with_reducible repeat first | exact HB.out | apply ba | apply bn | apply bd | refine bs ?_ GE129.out | refine bs ?_ GE138.out | refine bs ?_ GE144.out | refine bs ?_ GE147.out) hb); clear BK129; clear BK138; clear BK144; clear BK147; clear HB; have BK129 := n0_; have BK138 := n1_; have BK144 := n2_; have BK147 := n3_; have HB := n4_; clear n0_ n1_ n2_ n3_ n4_; (try clear hb); (try clear hb2); (try clear hk); (try clear hi); have hnb82 := NB138_129.out; have hnc82 := NB129_138.out; have hnb83 := NB138_147.out; have hnc83 := NB147_138.out; have hcz84_0 : w81.cell? ⟨gb138, 0, none⟩ = some (.int .i64 t133) := (blk_cell BK138.out 0).trans rfl; have hcz84_1 : w81.cell? ⟨gb138, 1, none⟩ = some (.int .i64 t134) := (blk_cell BK138.out 1).trans rfl; have hcz84_2 : w81.cell? ⟨gb138, 2, none⟩ = some (.int .i64 t135) := (blk_cell BK138.out 2).trans rfl; have hcz84_3 : w81.cell? ⟨gb138, 3, none⟩ = some (.bool t136) := (blk_cell BK138.out 3).trans rfl; have hfz84_0 := blk_frozen BK138.out 0; have hfz84_1 := blk_frozen BK138.out 1; have hfz84_2 := blk_frozen BK138.out 2; have hfz84_3 := blk_frozen BK138.out 3) | (go_at_call 24; (with_reducible refine (sphere_angle_fits.calls t133 t134 t135 t136 false _ A25.out).mono ?_); rintro e w85 ⟨rfl, hb⟩; have n0_ := Aside0.mk (blk_below (g := gb129) (o := .cells #[.int .i64 0, .int .i64 0] 23 (0, 0)) BK129.out hb); have n1_ := Aside0.mk (blk_below (g := gb138) (o := .cells #[.int .i64 t133, .int .i64 t134, .int .i64 t135, .bool t136] 39 (0, 0)) BK138.out hb); have n2_ := Aside0.mk (blk_below (g := gb144) (o := .cells #[.int .i64 t139, .int .i64 t140, .int .i64 t141, .bool t142] 39 (0, 0)) BK144.out hb); have n3_ := Aside0.mk (blk_below (g := gb147) (o := .cells #[.int .i64 t145, .int .i64 t146] 23 (0, 0)) BK147.out hb); have n4_ := Aside0.mk (below_step (by with_reducible repeat first | exact HB.out | apply ba | apply bn | apply bd | refine bs ?_ GE129.out | refine bs ?_ GE138.out | refine bs ?_ GE144.out | refine bs ?_ GE147.out) hb); clear BK129; clear BK138; clear BK144; clear BK147; clear HB; have BK129 := n0_; have BK138 := n1_; have BK144 := n2_; have BK147 := n3_; have HB := n4_; clear n0_ n1_ n2_ n3_ n4_; (try clear hb); (try clear hb2); (try clear hk); (try clear hi); have hnb86 := NB129_147.out; have hnc86 := NB147_129.out; have hcz87_0 : w85.cell? ⟨gb129, 0, none⟩ = some (.int .i64 0) := (blk_cell BK129.out 0).trans rfl; have hcz87_1 : w85.cell? ⟨gb129, 1, none⟩ = some (.int .i64 0) := (blk_cell BK129.out 1).trans rfl; have hfz87_0 := blk_frozen BK129.out 0; have hfz87_1 := blk_frozen BK129.out 1))
      refine bodyPost_ret (results_ct rfl _ _ gb129 23 #[.int .i64 0, .int .i64 0] (0, 0) _ rfl (by (with_reducible repeat first | refine n_ ?_ _ | refine d_ ?_ | refine a_ ?_ _); refine blk_put (cs := #[.int .i64 0, .int .i64 0]) ?_ 1 _ rfl; (with_reducible repeat first | refine n_ ?_ _ | refine d_ ?_ | refine a_ ?_ _); refine blk_put (cs := #[.int .i64 0, .int .i64 0]) ?_ 0 _ rfl; (with_reducible repeat first | refine n_ ?_ _ | refine d_ ?_ | refine a_ ?_ _); exact BK129.out) Try.underlying23 rfl (by kernel_rfl)) rfl ?_
      exact ⟨by first | rfl | (simp [errW_none, errW_some] <;> rfl) | (simp [*, errW_none, errW_some] <;> rfl), by with_reducible repeat first | exact HB.out | apply ba | apply bn | apply bd | refine bs ?_ GE129.out | refine bs ?_ GE138.out | refine bs ?_ GE144.out | refine bs ?_ GE147.out⟩
    ·replace c24 := Bool.eq_false_iff.mpr c24
     subst c24
     have H1 : (some (0, 0, 2)) = some (r1, r2, r3) := by rw [if_neg (show ¬ (false = true) by decide)] at H; exact H
     clear H
     have H := H1
     clear H1
     simp only [Option.some.injEq, Prod.mk.injEq] at H
     obtain ⟨rfl, rfl, rfl⟩ := H
     try go_wp2
     have n0_ := Aside0.mk (blk_drew BK129.out)
     have n1_ := Aside0.mk (blk_drew BK138.out)
     have n2_ := Aside0.mk (blk_drew BK144.out)
     have n3_ := Aside0.mk (below_drew1 HB.out)
     clear BK129
     clear BK138
     clear BK144
     clear HB
     have BK129 := n0_
     have BK138 := n1_
     have BK144 := n2_
     have HB := n3_
     clear n0_ n1_ n2_ n3_
     refine start_ (n := 7) (S := fun w' => w'.cell? ⟨gb144, 0, none⟩ = some (.int .i64 t139) ∧ w'.cell? ⟨gb144, 1, none⟩ = some (.int .i64 t140) ∧ w'.cell? ⟨gb144, 2, none⟩ = some (.int .i64 t141) ∧ w'.cell? ⟨gb144, 3, none⟩ = some (.bool t142) ∧ w'.cell? ⟨gb138, 0, none⟩ = some (.int .i64 t133) ∧ w'.cell? ⟨gb138, 1, none⟩ = some (.int .i64 t134) ∧ w'.cell? ⟨gb138, 2, none⟩ = some (.int .i64 t135) ∧ w'.cell? ⟨gb138, 3, none⟩ = some (.bool t136)) (ds := []) #[false, false, false, false, false, false, false] (by kernel_rfl) rfl rfl ⟨(blk_cell BK144.out 0).trans rfl, (blk_cell BK144.out 1).trans rfl, (blk_cell BK144.out 2).trans rfl, (blk_cell BK144.out 3).trans rfl, (blk_cell BK138.out 0).trans rfl, (blk_cell BK138.out 1).trans rfl, (blk_cell BK138.out 2).trans rfl, (blk_cell BK138.out 3).trans rfl⟩ (fun hHeld => ?_)
     generalize wc.drew = w88 at BK129 BK138 BK144 HB hHeld ⊢
     refine take_ (i := 0) (N := some 35) (v := ?_) (a' := ?_) #[true, false, false, false, false, false, false] rfl rfl (by kernel_rfl) (fun _ _ _ h => h) (Or.inl ⟨by rfl, ?_⟩) hHeld ?_ ?_
     rotate_left
     ·rintro w' ⟨s0, s1, s2, s3, s4, s5, s6, s7⟩
      go_simp
      with_reducible rfl
     rotate_left
     ·simp only [Act.put, s1, s2, s3, i64_w, i32_w]
      rfl
     refine take_ (i := 2) (N := some 37) (v := ?_) (a' := ?_) #[true, false, true, false, false, false, false] rfl rfl (by kernel_rfl) (fun _ _ _ h => h) (Or.inl ⟨by rfl, ?_⟩) hHeld ?_ ?_
     rotate_left
     ·rintro w' ⟨s0, s1, s2, s3, s4, s5, s6, s7⟩
      go_simp
      with_reducible rfl
     rotate_left
     ·simp only [Act.put, s1, s2, s3, i64_w, i32_w]
      rfl
     refine join_ (σ := Nat) 1 #[true, true, true, true, true, true, false] (fun s_ => [(36, .int .i64 t145), (38, .int .i64 t146), (11, .pointer (some ⟨s_, 0, none⟩)), (39, .agg #[.int .i64 t145, .int .i64 t146])]) (fun s_ w' => (w'.cell? ⟨gb144, 0, none⟩ = some (.int .i64 t139) ∧ w'.cell? ⟨gb144, 1, none⟩ = some (.int .i64 t140) ∧ w'.cell? ⟨gb144, 2, none⟩ = some (.int .i64 t141) ∧ w'.cell? ⟨gb144, 3, none⟩ = some (.bool t142) ∧ w'.cell? ⟨gb138, 0, none⟩ = some (.int .i64 t133) ∧ w'.cell? ⟨gb138, 1, none⟩ = some (.int .i64 t134) ∧ w'.cell? ⟨gb138, 2, none⟩ = some (.int .i64 t135) ∧ w'.cell? ⟨gb138, 3, none⟩ = some (.bool t136)) ∧ (w'.heap[gb129]? = some (.cells #[.int .i64 0, .int .i64 0] 23 (0, 0))) ∧ (w'.heap[gb138]? = some (.cells #[.int .i64 t133, .int .i64 t134, .int .i64 t135, .bool t136] 39 (0, 0))) ∧ (w'.heap[gb144]? = some (.cells #[.int .i64 t139, .int .i64 t140, .int .i64 t141, .bool t142] 39 (0, 0))) ∧ (w'.heap[s_]? = some (.cells #[.int .i64 0, .int .i64 0] 23 (0, 0))) ∧ (w.heap.size ≤ s_) ∧ (w.heap.size ≤ s_) ∧ (gb129 ≠ s_) ∧ (s_ ≠ gb129) ∧ (gb138 ≠ s_) ∧ (s_ ≠ gb138) ∧ (gb144 ≠ s_) ∧ (s_ ≠ gb144) ∧ (Below w.heap.size w w')) ?_ ?_
     rotate_left
     ·intro hCont
      refine two_ (i := 1) (j := 5) (Ni := some 36) (Nj := some 11) #[true, true, true, false, false, false, false] #[true, false, true, false, false, true, false] rfl rfl rfl rfl (by kernel_rfl) (by decide) (by decide) (fun K hK => ?_) (fun K hK => ?_)
      ·skip
       refine goes_ Try.func23 (by kernel_rfl) rfl #[.agg #[.int .i64 t139, .int .i64 t140, .int .i64 t141, .bool t142]] (by rfl) rfl rfl (by (try simp only [List.map_toArray, List.map_cons, List.map_nil]); first | done | rfl | (simp only [List.length_drop, List.length_take]; rfl)) ?_
       with_reducible refine (sphere_angle_value.calls t139 t140 t141 t142 t145 _ A21.out).mono ?_
       rintro e w89 ⟨rfl, hb⟩
       refine ⟨_, rfl, ?_⟩
       have n0_ := Aside0.mk (blk_below (g := gb129) (o := .cells #[.int .i64 0, .int .i64 0] 23 (0, 0)) BK129.out hb)
       have n1_ := Aside0.mk (blk_below (g := gb138) (o := .cells #[.int .i64 t133, .int .i64 t134, .int .i64 t135, .bool t136] 39 (0, 0)) BK138.out hb)
       have n2_ := Aside0.mk (blk_below (g := gb144) (o := .cells #[.int .i64 t139, .int .i64 t140, .int .i64 t141, .bool t142] 39 (0, 0)) BK144.out hb)
       have n3_ := Aside0.mk (below_step (by with_reducible repeat first | exact HB.out | apply ba | apply bn | apply bd | refine bs ?_ GE129.out | refine bs ?_ GE138.out | refine bs ?_ GE144.out) hb)
       clear BK129
       clear BK138
       clear BK144
       clear HB
       have BK129 := n0_
       have BK138 := n1_
       have BK144 := n2_
       have HB := n3_
       clear n0_ n1_ n2_ n3_
       (try clear hb)
       (try clear hb2)
       (try clear hk)
       (try clear hi)
       refine hK.out _ _ ⟨(blk_cell BK144.out 0).trans rfl, (blk_cell BK144.out 1).trans rfl, (blk_cell BK144.out 2).trans rfl, (blk_cell BK144.out 3).trans rfl, (blk_cell BK138.out 0).trans rfl, (blk_cell BK138.out 1).trans rfl, (blk_cell BK138.out 2).trans rfl, (blk_cell BK138.out 3).trans rfl⟩ (fun hHeld => ?_)
       clear hK K
       refine norm_ (a' := ?_) ?_ ?_
       rotate_left
       ·show Act.put _ (some 36) _ = _
        simp only [Act.put, s1, s2, s3, i64_w, i32_w]
        rfl
       refine two_ (i := 3) (j := 5) (Ni := some 38) (Nj := some 11) #[true, true, true, true, false, false, false] #[true, true, true, false, false, true, false] rfl rfl rfl rfl (by kernel_rfl) (by decide) (by decide) (fun K hK => ?_) (fun K hK => ?_)
       ·skip
        refine goes_ Try.func23 (by kernel_rfl) rfl #[.agg #[.int .i64 t133, .int .i64 t134, .int .i64 t135, .bool t136]] (by rfl) rfl rfl (by (try simp only [List.map_toArray, List.map_cons, List.map_nil]); first | done | rfl | (simp only [List.length_drop, List.length_take]; rfl)) ?_
        with_reducible refine (sphere_angle_value.calls t133 t134 t135 t136 t146 _ A22.out).mono ?_
        rintro e w90 ⟨rfl, hb⟩
        refine ⟨_, rfl, ?_⟩
        have n0_ := Aside0.mk (blk_below (g := gb129) (o := .cells #[.int .i64 0, .int .i64 0] 23 (0, 0)) BK129.out hb)
        have n1_ := Aside0.mk (blk_below (g := gb138) (o := .cells #[.int .i64 t133, .int .i64 t134, .int .i64 t135, .bool t136] 39 (0, 0)) BK138.out hb)
        have n2_ := Aside0.mk (blk_below (g := gb144) (o := .cells #[.int .i64 t139, .int .i64 t140, .int .i64 t141, .bool t142] 39 (0, 0)) BK144.out hb)
        have n3_ := Aside0.mk (below_step (by with_reducible repeat first | exact HB.out | apply ba | apply bn | apply bd | refine bs ?_ GE129.out | refine bs ?_ GE138.out | refine bs ?_ GE144.out) hb)
        clear BK129
        clear BK138
        clear BK144
        clear HB
        have BK129 := n0_
        have BK138 := n1_
        have BK144 := n2_
        have HB := n3_
        clear n0_ n1_ n2_ n3_
        (try clear hb)
        (try clear hb2)
        (try clear hk)
        (try clear hi)
        refine hK.out _ _ ⟨(blk_cell BK144.out 0).trans rfl, (blk_cell BK144.out 1).trans rfl, (blk_cell BK144.out 2).trans rfl, (blk_cell BK144.out 3).trans rfl, (blk_cell BK138.out 0).trans rfl, (blk_cell BK138.out 1).trans rfl, (blk_cell BK138.out 2).trans rfl, (blk_cell BK138.out 3).trans rfl⟩ (fun hHeld => ?_)
        clear hK K
        refine norm_ (a' := ?_) ?_ ?_
        rotate_left
        ·show Act.put _ (some 38) _ = _
         simp only [Act.put, s1, s2, s3, i64_w, i32_w]
         rfl
        refine pure_ (i := 4) (N := some 39) (v := ?_) (a' := ?_) #[true, true, true, true, true, false, false] rfl rfl (by kernel_rfl) (fun _ _ _ h => h) (Or.inl ⟨by rfl, ?_⟩) ?_ ?_
        rotate_left
        ·intro w'
         go_simp
         with_reducible rfl
        rotate_left
        ·simp only [Act.put, s1, s2, s3, i64_w, i32_w]
         rfl
        refine one_ (i := 5) (N := some 11) #[true, true, true, true, true, true, false] rfl rfl (by kernel_rfl) (by decide) (fun K hK => ?_)
        refine box_step ?hg (N := 11) ?hd (cs := #[.int .i64 0, .int .i64 0]) (t := 23) ?hr ?_; (case hd => rfl); (case hg => rfl); (case hr => first | (go_simp; done) | (go_simp; rfl))
        intro gb147 hg w91 hbox hb
        have n0_ := Aside0.mk (blk_below (g := gb129) (o := .cells #[.int .i64 0, .int .i64 0] 23 (0, 0)) BK129.out hb)
        have n1_ := Aside0.mk (blk_below (g := gb138) (o := .cells #[.int .i64 t133, .int .i64 t134, .int .i64 t135, .bool t136] 39 (0, 0)) BK138.out hb)
        have n2_ := Aside0.mk (blk_below (g := gb144) (o := .cells #[.int .i64 t139, .int .i64 t140, .int .i64 t141, .bool t142] 39 (0, 0)) BK144.out hb)
        have n3_ := Aside0.mk (below_step (by with_reducible repeat first | exact HB.out | apply ba | apply bn | apply bd | refine bs ?_ GE129.out | refine bs ?_ GE138.out | refine bs ?_ GE144.out) hb)
        have n4_ := Aside0.mk (hbox)
        have n5_ := Aside0.mk ((by rw [hg]; exact (below_size (by with_reducible repeat first | exact HB.out | apply ba | apply bn | apply bd | refine bs ?_ GE129.out | refine bs ?_ GE138.out | refine bs ?_ GE144.out)) : w.heap.size ≤ gb147))
        have n6_ := Aside0.mk ((by rw [hg]; exact (below_size (by with_reducible repeat first | exact HB.out | apply ba | apply bn | apply bd | refine bs ?_ GE129.out | refine bs ?_ GE138.out | refine bs ?_ GE144.out)) : w.heap.size ≤ gb147))
        have n7_ := Aside0.mk ((by rw [hg]; exact Nat.ne_of_lt (blk_lt (g := gb129) (o := .cells #[.int .i64 0, .int .i64 0] 23 (0, 0)) BK129.out) : gb129 ≠ gb147))
        have n8_ := Aside0.mk ((by rw [hg]; exact Nat.ne_of_gt (blk_lt (g := gb129) (o := .cells #[.int .i64 0, .int .i64 0] 23 (0, 0)) BK129.out) : gb147 ≠ gb129))
        have n9_ := Aside0.mk ((by rw [hg]; exact Nat.ne_of_lt (blk_lt (g := gb138) (o := .cells #[.int .i64 t133, .int .i64 t134, .int .i64 t135, .bool t136] 39 (0, 0)) BK138.out) : gb138 ≠ gb147))
        have n10_ := Aside0.mk ((by rw [hg]; exact Nat.ne_of_gt (blk_lt (g := gb138) (o := .cells #[.int .i64 t133, .int .i64 t134, .int .i64 t135, .bool t136] 39 (0, 0)) BK138.out) : gb147 ≠ gb138))
        have n11_ := Aside0.mk ((by rw [hg]; exact Nat.ne_of_lt (blk_lt (g := gb144) (o := .cells #[.int .i64 t139, .int .i64 t140, .int .i64 t141, .bool t142] 39 (0, 0)) BK144.out) : gb144 ≠ gb147))
        have n12_ := Aside0.mk ((by rw [hg]; exact Nat.ne_of_gt (blk_lt (g := gb144) (o := .cells #[.int .i64 t139, .int .i64 t140, .int .i64 t141, .bool t142] 39 (0, 0)) BK144.out) : gb147 ≠ gb144))
        clear BK129
        clear BK138
        clear BK144
        clear HB
        have BK129 := n0_
        have BK138 := n1_
        have BK144 := n2_
        have HB := n3_
        have BK147 := n4_
        have GW147 := n5_
        have GE147 := n6_
        have NB129_147 := n7_
        have NB147_129 := n8_
        have NB138_147 := n9_
        have NB147_138 := n10_
        have NB144_147 := n11_
        have NB147_144 := n12_
        clear n0_ n1_ n2_ n3_ n4_ n5_ n6_ n7_ n8_ n9_ n10_ n11_ n12_
        clear hb hbox hg
        refine hK.out _ _ ⟨(blk_cell BK144.out 0).trans rfl, (blk_cell BK144.out 1).trans rfl, (blk_cell BK144.out 2).trans rfl, (blk_cell BK144.out 3).trans rfl, (blk_cell BK138.out 0).trans rfl, (blk_cell BK138.out 1).trans rfl, (blk_cell BK138.out 2).trans rfl, (blk_cell BK138.out 3).trans rfl⟩ (fun hHeld => ?_)
        clear hK K
        refine norm_ (a' := ?_) ?_ ?_
        rotate_left
        ·show Act.put _ (some 11) _ = _
         simp only [Act.put, s1, s2, s3, i64_w, i32_w]
         rfl
        exact norm_ (by simp only [putAll, Act.put, s1, s2, s3]) (hCont (gb147) _ ⟨hHeld, BK129.out, BK138.out, BK144.out, BK147.out, GW147.out, GE147.out, NB129_147.out, NB147_129.out, NB138_147.out, NB147_138.out, NB144_147.out, NB147_144.out, (by with_reducible repeat first | exact HB.out | apply ba | apply bn | apply bd | refine bs ?_ GE129.out | refine bs ?_ GE138.out | refine bs ?_ GE144.out | refine bs ?_ GE147.out)⟩)
       ·skip
        refine box_step ?hg (N := 11) ?hd (cs := #[.int .i64 0, .int .i64 0]) (t := 23) ?hr ?_; (case hd => rfl); (case hg => rfl); (case hr => first | (go_simp; done) | (go_simp; rfl))
        intro gb147 hg w90 hbox hb
        have n0_ := Aside0.mk (blk_below (g := gb129) (o := .cells #[.int .i64 0, .int .i64 0] 23 (0, 0)) BK129.out hb)
        have n1_ := Aside0.mk (blk_below (g := gb138) (o := .cells #[.int .i64 t133, .int .i64 t134, .int .i64 t135, .bool t136] 39 (0, 0)) BK138.out hb)
        have n2_ := Aside0.mk (blk_below (g := gb144) (o := .cells #[.int .i64 t139, .int .i64 t140, .int .i64 t141, .bool t142] 39 (0, 0)) BK144.out hb)
        have n3_ := Aside0.mk (below_step (by with_reducible repeat first | exact HB.out | apply ba | apply bn | apply bd | refine bs ?_ GE129.out | refine bs ?_ GE138.out | refine bs ?_ GE144.out) hb)
        have n4_ := Aside0.mk (hbox)
        have n5_ := Aside0.mk ((by rw [hg]; exact (below_size (by with_reducible repeat first | exact HB.out | apply ba | apply bn | apply bd | refine bs ?_ GE129.out | refine bs ?_ GE138.out | refine bs ?_ GE144.out)) : w.heap.size ≤ gb147))
        have n6_ := Aside0.mk ((by rw [hg]; exact (below_size (by with_reducible repeat first | exact HB.out | apply ba | apply bn | apply bd | refine bs ?_ GE129.out | refine bs ?_ GE138.out | refine bs ?_ GE144.out)) : w.heap.size ≤ gb147))
        have n7_ := Aside0.mk ((by rw [hg]; exact Nat.ne_of_lt (blk_lt (g := gb129) (o := .cells #[.int .i64 0, .int .i64 0] 23 (0, 0)) BK129.out) : gb129 ≠ gb147))
        have n8_ := Aside0.mk ((by rw [hg]; exact Nat.ne_of_gt (blk_lt (g := gb129) (o := .cells #[.int .i64 0, .int .i64 0] 23 (0, 0)) BK129.out) : gb147 ≠ gb129))
        have n9_ := Aside0.mk ((by rw [hg]; exact Nat.ne_of_lt (blk_lt (g := gb138) (o := .cells #[.int .i64 t133, .int .i64 t134, .int .i64 t135, .bool t136] 39 (0, 0)) BK138.out) : gb138 ≠ gb147))
        have n10_ := Aside0.mk ((by rw [hg]; exact Nat.ne_of_gt (blk_lt (g := gb138) (o := .cells #[.int .i64 t133, .int .i64 t134, .int .i64 t135, .bool t136] 39 (0, 0)) BK138.out) : gb147 ≠ gb138))
        have n11_ := Aside0.mk ((by rw [hg]; exact Nat.ne_of_lt (blk_lt (g := gb144) (o := .cells #[.int .i64 t139, .int .i64 t140, .int .i64 t141, .bool t142] 39 (0, 0)) BK144.out) : gb144 ≠ gb147))
        have n12_ := Aside0.mk ((by rw [hg]; exact Nat.ne_of_gt (blk_lt (g := gb144) (o := .cells #[.int .i64 t139, .int .i64 t140, .int .i64 t141, .bool t142] 39 (0, 0)) BK144.out) : gb147 ≠ gb144))
        clear BK129
        clear BK138
        clear BK144
        clear HB
        have BK129 := n0_
        have BK138 := n1_
        have BK144 := n2_
        have HB := n3_
        have BK147 := n4_
        have GW147 := n5_
        have GE147 := n6_
        have NB129_147 := n7_
        have NB147_129 := n8_
        have NB138_147 := n9_
        have NB147_138 := n10_
        have NB144_147 := n11_
        have NB147_144 := n12_
        clear n0_ n1_ n2_ n3_ n4_ n5_ n6_ n7_ n8_ n9_ n10_ n11_ n12_
        clear hb hbox hg
        refine hK.out _ _ ⟨(blk_cell BK144.out 0).trans rfl, (blk_cell BK144.out 1).trans rfl, (blk_cell BK144.out 2).trans rfl, (blk_cell BK144.out 3).trans rfl, (blk_cell BK138.out 0).trans rfl, (blk_cell BK138.out 1).trans rfl, (blk_cell BK138.out 2).trans rfl, (blk_cell BK138.out 3).trans rfl⟩ (fun hHeld => ?_)
        clear hK K
        refine norm_ (a' := ?_) ?_ ?_
        rotate_left
        ·show Act.put _ (some 11) _ = _
         simp only [Act.put, s1, s2, s3, i64_w, i32_w]
         rfl
        refine one_ (i := 3) (N := some 38) #[true, true, true, true, false, true, false] rfl rfl (by kernel_rfl) (by decide) (fun K hK => ?_)
        refine goes_ Try.func23 (by kernel_rfl) rfl #[.agg #[.int .i64 t133, .int .i64 t134, .int .i64 t135, .bool t136]] (by rfl) rfl rfl (by (try simp only [List.map_toArray, List.map_cons, List.map_nil]); first | done | rfl | (simp only [List.length_drop, List.length_take]; rfl)) ?_
        with_reducible refine (sphere_angle_value.calls t133 t134 t135 t136 t146 _ A22.out).mono ?_
        rintro e w91 ⟨rfl, hb⟩
        refine ⟨_, rfl, ?_⟩
        have n0_ := Aside0.mk (blk_below (g := gb129) (o := .cells #[.int .i64 0, .int .i64 0] 23 (0, 0)) BK129.out hb)
        have n1_ := Aside0.mk (blk_below (g := gb138) (o := .cells #[.int .i64 t133, .int .i64 t134, .int .i64 t135, .bool t136] 39 (0, 0)) BK138.out hb)
        have n2_ := Aside0.mk (blk_below (g := gb144) (o := .cells #[.int .i64 t139, .int .i64 t140, .int .i64 t141, .bool t142] 39 (0, 0)) BK144.out hb)
        have n3_ := Aside0.mk (blk_below (g := gb147) (o := .cells #[.int .i64 0, .int .i64 0] 23 (0, 0)) BK147.out hb)
        have n4_ := Aside0.mk (below_step (by with_reducible repeat first | exact HB.out | apply ba | apply bn | apply bd | refine bs ?_ GE129.out | refine bs ?_ GE138.out | refine bs ?_ GE144.out | refine bs ?_ GE147.out) hb)
        clear BK129
        clear BK138
        clear BK144
        clear BK147
        clear HB
        have BK129 := n0_
        have BK138 := n1_
        have BK144 := n2_
        have BK147 := n3_
        have HB := n4_
        clear n0_ n1_ n2_ n3_ n4_
        (try clear hb)
        (try clear hb2)
        (try clear hk)
        (try clear hi)
        refine hK.out _ _ ⟨(blk_cell BK144.out 0).trans rfl, (blk_cell BK144.out 1).trans rfl, (blk_cell BK144.out 2).trans rfl, (blk_cell BK144.out 3).trans rfl, (blk_cell BK138.out 0).trans rfl, (blk_cell BK138.out 1).trans rfl, (blk_cell BK138.out 2).trans rfl, (blk_cell BK138.out 3).trans rfl⟩ (fun hHeld => ?_)
        clear hK K
        refine norm_ (a' := ?_) ?_ ?_
        rotate_left
        ·show Act.put _ (some 38) _ = _
         simp only [Act.put, s1, s2, s3, i64_w, i32_w]
         rfl
        refine pure_ (i := 4) (N := some 39) (v := ?_) (a' := ?_) #[true, true, true, true, true, true, false] rfl rfl (by kernel_rfl) (fun _ _ _ h => h) (Or.inl ⟨by rfl, ?_⟩) ?_ ?_
        rotate_left
        ·intro w'
         go_simp
         with_reducible rfl
        rotate_left
        ·simp only [Act.put, s1, s2, s3, i64_w, i32_w]
         rfl
        exact norm_ (by simp only [putAll, Act.put, s1, s2, s3]) (hCont (gb147) _ ⟨hHeld, BK129.out, BK138.out, BK144.out, BK147.out, GW147.out, GE147.out, NB129_147.out, NB147_129.out, NB138_147.out, NB147_138.out, NB144_147.out, NB147_144.out, (by with_reducible repeat first | exact HB.out | apply ba | apply bn | apply bd | refine bs ?_ GE129.out | refine bs ?_ GE138.out | refine bs ?_ GE144.out | refine bs ?_ GE147.out)⟩)
      ·skip
       refine box_step ?hg (N := 11) ?hd (cs := #[.int .i64 0, .int .i64 0]) (t := 23) ?hr ?_; (case hd => rfl); (case hg => rfl); (case hr => first | (go_simp; done) | (go_simp; rfl))
       intro gb147 hg w89 hbox hb
       have n0_ := Aside0.mk (blk_below (g := gb129) (o := .cells #[.int .i64 0, .int .i64 0] 23 (0, 0)) BK129.out hb)
       have n1_ := Aside0.mk (blk_below (g := gb138) (o := .cells #[.int .i64 t133, .int .i64 t134, .int .i64 t135, .bool t136] 39 (0, 0)) BK138.out hb)
       have n2_ := Aside0.mk (blk_below (g := gb144) (o := .cells #[.int .i64 t139, .int .i64 t140, .int .i64 t141, .bool t142] 39 (0, 0)) BK144.out hb)
       have n3_ := Aside0.mk (below_step (by with_reducible repeat first | exact HB.out | apply ba | apply bn | apply bd | refine bs ?_ GE129.out | refine bs ?_ GE138.out | refine bs ?_ GE144.out) hb)
       have n4_ := Aside0.mk (hbox)
       have n5_ := Aside0.mk ((by rw [hg]; exact (below_size (by with_reducible repeat first | exact HB.out | apply ba | apply bn | apply bd | refine bs ?_ GE129.out | refine bs ?_ GE138.out | refine bs ?_ GE144.out)) : w.heap.size ≤ gb147))
       have n6_ := Aside0.mk ((by rw [hg]; exact (below_size (by with_reducible repeat first | exact HB.out | apply ba | apply bn | apply bd | refine bs ?_ GE129.out | refine bs ?_ GE138.out | refine bs ?_ GE144.out)) : w.heap.size ≤ gb147))
       have n7_ := Aside0.mk ((by rw [hg]; exact Nat.ne_of_lt (blk_lt (g := gb129) (o := .cells #[.int .i64 0, .int .i64 0] 23 (0, 0)) BK129.out) : gb129 ≠ gb147))
       have n8_ := Aside0.mk ((by rw [hg]; exact Nat.ne_of_gt (blk_lt (g := gb129) (o := .cells #[.int .i64 0, .int .i64 0] 23 (0, 0)) BK129.out) : gb147 ≠ gb129))
       have n9_ := Aside0.mk ((by rw [hg]; exact Nat.ne_of_lt (blk_lt (g := gb138) (o := .cells #[.int .i64 t133, .int .i64 t134, .int .i64 t135, .bool t136] 39 (0, 0)) BK138.out) : gb138 ≠ gb147))
       have n10_ := Aside0.mk ((by rw [hg]; exact Nat.ne_of_gt (blk_lt (g := gb138) (o := .cells #[.int .i64 t133, .int .i64 t134, .int .i64 t135, .bool t136] 39 (0, 0)) BK138.out) : gb147 ≠ gb138))
       have n11_ := Aside0.mk ((by rw [hg]; exact Nat.ne_of_lt (blk_lt (g := gb144) (o := .cells #[.int .i64 t139, .int .i64 t140, .int .i64 t141, .bool t142] 39 (0, 0)) BK144.out) : gb144 ≠ gb147))
       have n12_ := Aside0.mk ((by rw [hg]; exact Nat.ne_of_gt (blk_lt (g := gb144) (o := .cells #[.int .i64 t139, .int .i64 t140, .int .i64 t141, .bool t142] 39 (0, 0)) BK144.out) : gb147 ≠ gb144))
       clear BK129
       clear BK138
       clear BK144
       clear HB
       have BK129 := n0_
       have BK138 := n1_
       have BK144 := n2_
       have HB := n3_
       have BK147 := n4_
       have GW147 := n5_
       have GE147 := n6_
       have NB129_147 := n7_
       have NB147_129 := n8_
       have NB138_147 := n9_
       have NB147_138 := n10_
       have NB144_147 := n11_
       have NB147_144 := n12_
       clear n0_ n1_ n2_ n3_ n4_ n5_ n6_ n7_ n8_ n9_ n10_ n11_ n12_
       clear hb hbox hg
       refine hK.out _ _ ⟨(blk_cell BK144.out 0).trans rfl, (blk_cell BK144.out 1).trans rfl, (blk_cell BK144.out 2).trans rfl, (blk_cell BK144.out 3).trans rfl, (blk_cell BK138.out 0).trans rfl, (blk_cell BK138.out 1).trans rfl, (blk_cell BK138.out 2).trans rfl, (blk_cell BK138.out 3).trans rfl⟩ (fun hHeld => ?_)
       clear hK K
       refine norm_ (a' := ?_) ?_ ?_
       rotate_left
       ·show Act.put _ (some 11) _ = _
        simp only [Act.put, s1, s2, s3, i64_w, i32_w]
        rfl
       refine one_ (i := 1) (N := some 36) #[true, true, true, false, false, true, false] rfl rfl (by kernel_rfl) (by decide) (fun K hK => ?_)
       refine goes_ Try.func23 (by kernel_rfl) rfl #[.agg #[.int .i64 t139, .int .i64 t140, .int .i64 t141, .bool t142]] (by rfl) rfl rfl (by (try simp only [List.map_toArray, List.map_cons, List.map_nil]); first | done | rfl | (simp only [List.length_drop, List.length_take]; rfl)) ?_
       with_reducible refine (sphere_angle_value.calls t139 t140 t141 t142 t145 _ A21.out).mono ?_
       rintro e w90 ⟨rfl, hb⟩
       refine ⟨_, rfl, ?_⟩
       have n0_ := Aside0.mk (blk_below (g := gb129) (o := .cells #[.int .i64 0, .int .i64 0] 23 (0, 0)) BK129.out hb)
       have n1_ := Aside0.mk (blk_below (g := gb138) (o := .cells #[.int .i64 t133, .int .i64 t134, .int .i64 t135, .bool t136] 39 (0, 0)) BK138.out hb)
       have n2_ := Aside0.mk (blk_below (g := gb144) (o := .cells #[.int .i64 t139, .int .i64 t140, .int .i64 t141, .bool t142] 39 (0, 0)) BK144.out hb)
       have n3_ := Aside0.mk (blk_below (g := gb147) (o := .cells #[.int .i64 0, .int .i64 0] 23 (0, 0)) BK147.out hb)
       have n4_ := Aside0.mk (below_step (by with_reducible repeat first | exact HB.out | apply ba | apply bn | apply bd | refine bs ?_ GE129.out | refine bs ?_ GE138.out | refine bs ?_ GE144.out | refine bs ?_ GE147.out) hb)
       clear BK129
       clear BK138
       clear BK144
       clear BK147
       clear HB
       have BK129 := n0_
       have BK138 := n1_
       have BK144 := n2_
       have BK147 := n3_
       have HB := n4_
       clear n0_ n1_ n2_ n3_ n4_
       (try clear hb)
       (try clear hb2)
       (try clear hk)
       (try clear hi)
       refine hK.out _ _ ⟨(blk_cell BK144.out 0).trans rfl, (blk_cell BK144.out 1).trans rfl, (blk_cell BK144.out 2).trans rfl, (blk_cell BK144.out 3).trans rfl, (blk_cell BK138.out 0).trans rfl, (blk_cell BK138.out 1).trans rfl, (blk_cell BK138.out 2).trans rfl, (blk_cell BK138.out 3).trans rfl⟩ (fun hHeld => ?_)
       clear hK K
       refine norm_ (a' := ?_) ?_ ?_
       rotate_left
       ·show Act.put _ (some 36) _ = _
        simp only [Act.put, s1, s2, s3, i64_w, i32_w]
        rfl
       refine one_ (i := 3) (N := some 38) #[true, true, true, true, false, true, false] rfl rfl (by kernel_rfl) (by decide) (fun K hK => ?_)
       refine goes_ Try.func23 (by kernel_rfl) rfl #[.agg #[.int .i64 t133, .int .i64 t134, .int .i64 t135, .bool t136]] (by rfl) rfl rfl (by (try simp only [List.map_toArray, List.map_cons, List.map_nil]); first | done | rfl | (simp only [List.length_drop, List.length_take]; rfl)) ?_
       with_reducible refine (sphere_angle_value.calls t133 t134 t135 t136 t146 _ A22.out).mono ?_
       rintro e w91 ⟨rfl, hb⟩
       refine ⟨_, rfl, ?_⟩
       have n0_ := Aside0.mk (blk_below (g := gb129) (o := .cells #[.int .i64 0, .int .i64 0] 23 (0, 0)) BK129.out hb)
       have n1_ := Aside0.mk (blk_below (g := gb138) (o := .cells #[.int .i64 t133, .int .i64 t134, .int .i64 t135, .bool t136] 39 (0, 0)) BK138.out hb)
       have n2_ := Aside0.mk (blk_below (g := gb144) (o := .cells #[.int .i64 t139, .int .i64 t140, .int .i64 t141, .bool t142] 39 (0, 0)) BK144.out hb)
       have n3_ := Aside0.mk (blk_below (g := gb147) (o := .cells #[.int .i64 0, .int .i64 0] 23 (0, 0)) BK147.out hb)
       have n4_ := Aside0.mk (below_step (by with_reducible repeat first | exact HB.out | apply ba | apply bn | apply bd | refine bs ?_ GE129.out | refine bs ?_ GE138.out | refine bs ?_ GE144.out | refine bs ?_ GE147.out) hb)
       clear BK129
       clear BK138
       clear BK144
       clear BK147
       clear HB
       have BK129 := n0_
       have BK138 := n1_
       have BK144 := n2_
       have BK147 := n3_
       have HB := n4_
       clear n0_ n1_ n2_ n3_ n4_
       (try clear hb)
       (try clear hb2)
       (try clear hk)
       (try clear hi)
       refine hK.out _ _ ⟨(blk_cell BK144.out 0).trans rfl, (blk_cell BK144.out 1).trans rfl, (blk_cell BK144.out 2).trans rfl, (blk_cell BK144.out 3).trans rfl, (blk_cell BK138.out 0).trans rfl, (blk_cell BK138.out 1).trans rfl, (blk_cell BK138.out 2).trans rfl, (blk_cell BK138.out 3).trans rfl⟩ (fun hHeld => ?_)
       clear hK K
       refine norm_ (a' := ?_) ?_ ?_
       rotate_left
       ·show Act.put _ (some 38) _ = _
        simp only [Act.put, s1, s2, s3, i64_w, i32_w]
        rfl
       refine pure_ (i := 4) (N := some 39) (v := ?_) (a' := ?_) #[true, true, true, true, true, true, false] rfl rfl (by kernel_rfl) (fun _ _ _ h => h) (Or.inl ⟨by rfl, ?_⟩) ?_ ?_
       rotate_left
       ·intro w'
        go_simp
        with_reducible rfl
       rotate_left
       ·simp only [Act.put, s1, s2, s3, i64_w, i32_w]
        rfl
       exact norm_ (by simp only [putAll, Act.put, s1, s2, s3]) (hCont (gb147) _ ⟨hHeld, BK129.out, BK138.out, BK144.out, BK147.out, GW147.out, GE147.out, NB129_147.out, NB147_129.out, NB138_147.out, NB147_138.out, NB144_147.out, NB147_144.out, (by with_reducible repeat first | exact HB.out | apply ba | apply bn | apply bd | refine bs ?_ GE129.out | refine bs ?_ GE138.out | refine bs ?_ GE144.out | refine bs ?_ GE147.out)⟩)
     rintro gb147 w92 ⟨hS_, h0_, h1_, h2_, h3_, h4_, h5_, h6_, h7_, h8_, h9_, h10_, h11_, h12_⟩
     have n0_ : Aside0 (w92.heap[gb129]? = some (.cells #[.int .i64 0, .int .i64 0] 23 (0, 0))) := ⟨h0_⟩
     have n1_ : Aside0 (w92.heap[gb138]? = some (.cells #[.int .i64 t133, .int .i64 t134, .int .i64 t135, .bool t136] 39 (0, 0))) := ⟨h1_⟩
     have n2_ : Aside0 (w92.heap[gb144]? = some (.cells #[.int .i64 t139, .int .i64 t140, .int .i64 t141, .bool t142] 39 (0, 0))) := ⟨h2_⟩
     have n3_ : Aside0 (w92.heap[gb147]? = some (.cells #[.int .i64 0, .int .i64 0] 23 (0, 0))) := ⟨h3_⟩
     have n4_ : Aside0 (w.heap.size ≤ gb147) := ⟨h4_⟩
     have n5_ : Aside0 (w.heap.size ≤ gb147) := ⟨h5_⟩
     have n6_ : Aside0 (gb129 ≠ gb147) := ⟨h6_⟩
     have n7_ : Aside0 (gb147 ≠ gb129) := ⟨h7_⟩
     have n8_ : Aside0 (gb138 ≠ gb147) := ⟨h8_⟩
     have n9_ : Aside0 (gb147 ≠ gb138) := ⟨h9_⟩
     have n10_ : Aside0 (gb144 ≠ gb147) := ⟨h10_⟩
     have n11_ : Aside0 (gb147 ≠ gb144) := ⟨h11_⟩
     have n12_ : Aside0 (Below w.heap.size w w92) := ⟨h12_⟩
     clear BK129
     clear BK138
     clear BK144
     clear HB
     clear h0_ h1_ h2_ h3_ h4_ h5_ h6_ h7_ h8_ h9_ h10_ h11_ h12_
     have BK129 := n0_
     have BK138 := n1_
     have BK144 := n2_
     have BK147 := n3_
     have GW147 := n4_
     have GE147 := n5_
     have NB129_147 := n6_
     have NB147_129 := n7_
     have NB138_147 := n8_
     have NB147_138 := n9_
     have NB144_147 := n10_
     have NB147_144 := n11_
     have HB := n12_
     clear n0_ n1_ n2_ n3_ n4_ n5_ n6_ n7_ n8_ n9_ n10_ n11_ n12_
     have hHeld : w92.cell? ⟨gb144, 0, none⟩ = some (.int .i64 t139) ∧ w92.cell? ⟨gb144, 1, none⟩ = some (.int .i64 t140) ∧ w92.cell? ⟨gb144, 2, none⟩ = some (.int .i64 t141) ∧ w92.cell? ⟨gb144, 3, none⟩ = some (.bool t142) ∧ w92.cell? ⟨gb138, 0, none⟩ = some (.int .i64 t133) ∧ w92.cell? ⟨gb138, 1, none⟩ = some (.int .i64 t134) ∧ w92.cell? ⟨gb138, 2, none⟩ = some (.int .i64 t135) ∧ w92.cell? ⟨gb138, 3, none⟩ = some (.bool t136) := hS_
     refine norm_ (a' := ?_) ?_ ?_
     rotate_left
     ·simp only [putAll, Act.put, s1, s2, s3]
      rfl
     refine one_ (i := 6) (N := none) #[true, true, true, true, true, true, true] rfl rfl (by kernel_rfl) (by decide) (fun K hK => ?_)
     have hs93 : w92.cell? ⟨gb147, 0, none⟩ = some (.int .i64 0) := (blk_cell BK147.out 0).trans rfl
     have hfs93 := blk_frozen BK147.out 0
     have hns93_0 := NB129_147.out
     have hns93_1 := NB138_147.out
     have hns93_2 := NB144_147.out
     have hms93_0 := NB147_129.out
     have hms93_1 := NB147_138.out
     have hms93_2 := NB147_144.out
     have hs94 : w92.cell? ⟨gb147, 1, none⟩ = some (.int .i64 0) := (blk_cell BK147.out 1).trans rfl
     have hfs94 := blk_frozen BK147.out 1
     have hns94_0 := NB129_147.out
     have hns94_1 := NB138_147.out
     have hns94_2 := NB144_147.out
     have hms94_0 := NB147_129.out
     have hms94_1 := NB147_138.out
     have hms94_2 := NB147_144.out
     refine skip_ (w1 := ?_) (by rfl) rfl ?_ ?_
     rotate_left
     ·go_simp
      rfl
     refine hK.out _ _ ⟨((cell_far (p := ⟨gb147, _, none⟩) NB144_147.out _).trans (((cell_far (p := ⟨gb147, _, none⟩) NB144_147.out _).trans (hHeld.1)))), ((cell_far (p := ⟨gb147, _, none⟩) NB144_147.out _).trans (((cell_far (p := ⟨gb147, _, none⟩) NB144_147.out _).trans (hHeld.2.1)))), ((cell_far (p := ⟨gb147, _, none⟩) NB144_147.out _).trans (((cell_far (p := ⟨gb147, _, none⟩) NB144_147.out _).trans (hHeld.2.2.1)))), ((cell_far (p := ⟨gb147, _, none⟩) NB144_147.out _).trans (((cell_far (p := ⟨gb147, _, none⟩) NB144_147.out _).trans (hHeld.2.2.2.1)))), ((cell_far (p := ⟨gb147, _, none⟩) NB138_147.out _).trans (((cell_far (p := ⟨gb147, _, none⟩) NB138_147.out _).trans (hHeld.2.2.2.2.1)))), ((cell_far (p := ⟨gb147, _, none⟩) NB138_147.out _).trans (((cell_far (p := ⟨gb147, _, none⟩) NB138_147.out _).trans (hHeld.2.2.2.2.2.1)))), ((cell_far (p := ⟨gb147, _, none⟩) NB138_147.out _).trans (((cell_far (p := ⟨gb147, _, none⟩) NB138_147.out _).trans (hHeld.2.2.2.2.2.2.1)))), ((cell_far (p := ⟨gb147, _, none⟩) NB138_147.out _).trans (((cell_far (p := ⟨gb147, _, none⟩) NB138_147.out _).trans (hHeld.2.2.2.2.2.2.2))))⟩ (fun hHeld => ?_)
     clear hK K
     refine done_ (by kernel_rfl) ?_
     have hnb95 := NB144_129.out
     have hnc95 := NB129_144.out
     have hnb96 := NB144_138.out
     have hnc96 := NB138_144.out
     have hnb97 := NB144_147.out
     have hnc97 := NB147_144.out
     have hcz98_0 : w92.cell? ⟨gb144, 0, none⟩ = some (.int .i64 t139) := (blk_cell BK144.out 0).trans rfl
     have hcz98_1 : w92.cell? ⟨gb144, 1, none⟩ = some (.int .i64 t140) := (blk_cell BK144.out 1).trans rfl
     have hcz98_2 : w92.cell? ⟨gb144, 2, none⟩ = some (.int .i64 t141) := (blk_cell BK144.out 2).trans rfl
     have hcz98_3 : w92.cell? ⟨gb144, 3, none⟩ = some (.bool t142) := (blk_cell BK144.out 3).trans rfl
     have hfz98_0 := blk_frozen BK144.out 0
     have hfz98_1 := blk_frozen BK144.out 1
     have hfz98_2 := blk_frozen BK144.out 2
     have hfz98_3 := blk_frozen BK144.out 3
     try go_wp2_with (first | ((with_reducible refine gate_callee (f := 24) rfl ?_); refine goesL_ (some 41) rfl rfl Try.func24 (by kernel_rfl) rfl #[.agg #[.int .i64 t139, .int .i64 t140, .int .i64 t141, .bool t142]] rfl (by (try simp only [List.map_toArray, List.map_cons, List.map_nil]); first | done | rfl | (simp only [List.length_drop, List.length_take]; rfl)) ?_; (with_reducible refine (sphere_angle_fits.calls t139 t140 t141 t142 false _ A23.out).mono ?_); rintro e w99 ⟨rfl, hb⟩; refine ⟨_, rfl, ?_⟩; have n0_ := Aside0.mk (blk_below (g := gb129) (o := .cells #[.int .i64 0, .int .i64 0] 23 (0, 0)) (by (with_reducible repeat first | refine n_ ?_ _ | refine d_ ?_ | refine a_ ?_ _); refine blk_far ?_ NB129_147.out _; (with_reducible repeat first | refine n_ ?_ _ | refine d_ ?_ | refine a_ ?_ _); refine blk_far ?_ NB129_147.out _; (with_reducible repeat first | refine n_ ?_ _ | refine d_ ?_ | refine a_ ?_ _); exact BK129.out) hb); have n1_ := Aside0.mk (blk_below (g := gb138) (o := .cells #[.int .i64 t133, .int .i64 t134, .int .i64 t135, .bool t136] 39 (0, 0)) (by (with_reducible repeat first | refine n_ ?_ _ | refine d_ ?_ | refine a_ ?_ _); refine blk_far ?_ NB138_147.out _; (with_reducible repeat first | refine n_ ?_ _ | refine d_ ?_ | refine a_ ?_ _); refine blk_far ?_ NB138_147.out _; (with_reducible repeat first | refine n_ ?_ _ | refine d_ ?_ | refine a_ ?_ _); exact BK138.out) hb); have n2_ := Aside0.mk (blk_below (g := gb144) (o := .cells #[.int .i64 t139, .int .i64 t140, .int .i64 t141, .bool t142] 39 (0, 0)) (by (with_reducible repeat first | refine n_ ?_ _ | refine d_ ?_ | refine a_ ?_ _); refine blk_far ?_ NB144_147.out _; (with_reducible repeat first | refine n_ ?_ _ | refine d_ ?_ | refine a_ ?_ _); refine blk_far ?_ NB144_147.out _; (with_reducible repeat first | refine n_ ?_ _ | refine d_ ?_ | refine a_ ?_ _); exact BK144.out) hb); have n3_ := Aside0.mk (blk_below (g := gb147) (o := .cells #[.int .i64 t145, .int .i64 t146] 23 (0, 0)) (by (with_reducible repeat first | refine n_ ?_ _ | refine d_ ?_ | refine a_ ?_ _); refine blk_put (cs := #[.int .i64 t145, .int .i64 0]) ?_ 1 _ rfl; (with_reducible repeat first | refine n_ ?_ _ | refine d_ ?_ | refine a_ ?_ _); refine blk_put (cs := #[.int .i64 0, .int .i64 0]) ?_ 0 _ rfl; (with_reducible repeat first | refine n_ ?_ _ | refine d_ ?_ | refine a_ ?_ _); exact BK147.out) hb); have n4_ := Aside0.mk (below_step (by with_reducible repeat first | exact HB.out | apply ba | apply bn | apply bd | refine bs ?_ GE129.out | refine bs ?_ GE138.out | refine bs ?_ GE144.out | refine bs ?_ GE147.out) hb); clear BK129; clear BK138; clear BK144; clear BK147; clear HB; have BK129 := n0_; have BK138 := n1_; have BK144 := n2_; have BK147 := n3_; have HB := n4_; clear n0_ n1_ n2_ n3_ n4_; (try clear hb); (try clear hb2); (try clear hk); (try clear hi); have hnb100 := NB129_138.out; have hnc100 := NB138_129.out; have hnb101 := NB129_147.out; have hnc101 := NB147_129.out; have hcz102_0 : w99.cell? ⟨gb129, 0, none⟩ = some (.int .i64 0) := (blk_cell BK129.out 0).trans rfl; have hcz102_1 : w99.cell? ⟨gb129, 1, none⟩ = some (.int .i64 0) := (blk_cell BK129.out 1).trans rfl; have hfz102_0 := blk_frozen BK129.out 0; have hfz102_1 := blk_frozen BK129.out 1))
     refine bodyPost_ret (results_ct rfl _ _ gb129 23 #[.int .i64 0, .int .i64 0] (0, 0) _ rfl (by (with_reducible repeat first | refine n_ ?_ _ | refine d_ ?_ | refine a_ ?_ _); refine blk_put (cs := #[.int .i64 0, .int .i64 0]) ?_ 1 _ rfl; (with_reducible repeat first | refine n_ ?_ _ | refine d_ ?_ | refine a_ ?_ _); refine blk_put (cs := #[.int .i64 0, .int .i64 0]) ?_ 0 _ rfl; (with_reducible repeat first | refine n_ ?_ _ | refine d_ ?_ | refine a_ ?_ _); exact BK129.out) Try.underlying23 rfl (by kernel_rfl)) rfl ?_
     exact ⟨by first | rfl | (simp [errW_none, errW_some] <;> rfl) | (simp [*, errW_none, errW_some] <;> rfl), by with_reducible repeat first | exact HB.out | apply ba | apply bn | apply bd | refine bs ?_ GE129.out | refine bs ?_ GE138.out | refine bs ?_ GE144.out | refine bs ?_ GE147.out⟩

end Go.Proofs.Yteojklacaecmpaa.P
