-- Written by wip/tools/xprint.py (this session's program, over the kit's print.py) for this seat.
import Derived.Test.YteojklacaecmpaaPx0
import Derived.Test.YteojklacaecmpaaPx9
import Derived.Test.YteojklacaecmpaaPx10
import Derived.Test.YteojklacaecmpaaPx11
namespace Go.Proofs.Yteojklacaecmpaa.P
open Go.RowKit Go.Proofs.YteojklacaecmpaaW.PrintWords Go.Proofs.YteojklacaecmpaaW.PrintLast Go.Proofs.YteojklacaecmpaaW.PrintMore
attribute [local go_sem] max2_int min2_int max_two min_two max_three min_three max_four min_four   -- for this text's walks alone
set_option linter.unusedVariables false
set_option linter.unusedSimpArgs false

/-! ### mapsheetslaw12_SphereTriangle: function 9 -/
def mapsheetslaw12_SphereTriangle.j0 : Nat → Bool → Int → Int → Int → Int → Int → Int → Option (Bool)
 | 0, _, _, _, _, _, _, _ => none
 | k + 1, x20, x388000, x388001, x389000, x389001, x390000, x390001 => if x20 = true then ((mapsheetslaw12_awake.f k).bind fun t393 => (some t393)) else ((sphere_Chord.f k x388000 x388001 x389000 x389001).bind fun t394 => ((sphere_Chord.f k x389000 x389001 x388000 x388001).bind fun t395 => (if t394 = t395 then ((sphere_Chord.f k x388000 x388001 x388000 x388001).bind fun t396 => (if t396 = 0 then ((sphere_Chord.f k x388000 x388001 x390000 x390001).bind fun t397 => ((sphere_Chord.f k x390000 x390001 x389000 x389001).bind fun t398 => (if t394 ≤ (wrap64 ((wrap64 (t397 + t398)) + 1)) then ((mapsheetslaw12_awake.f k).bind fun t399 => (some t399)) else (none)))) else (none))) else (none))))
def mapsheetslaw12_SphereTriangle.f (k : Nat) (a0_0 : Int) (a0_1 : Int) (a1_0 : Int) (a1_1 : Int) (a2_0 : Int) (a2_1 : Int) : Option (Bool) := (mapsheetsref12_Valid.f a0_0 a0_1).bind fun t390 => (if t390 = true then ((mapsheetsref12_Valid.f a1_0 a1_1).bind fun t391 => (if t391 = true then ((mapsheetsref12_Valid.f a2_0 a2_1).bind fun t392 => (mapsheetslaw12_SphereTriangle.j0 k (!t392) a0_0 a0_1 a1_0 a1_1 a2_0 a2_1)) else (mapsheetslaw12_SphereTriangle.j0 k true a0_0 a0_1 a1_0 a1_1 a2_0 a2_1))) else (mapsheetslaw12_SphereTriangle.j0 k true a0_0 a0_1 a1_0 a1_1 a2_0 a2_1))
theorem mapsheetslaw12_SphereTriangle.mono_l : ∀ k, (∀ y0 y1 y2 y3 y4 y5 y6, LeO (mapsheetslaw12_SphereTriangle.j0 k y0 y1 y2 y3 y4 y5 y6) (mapsheetslaw12_SphereTriangle.j0 (k + 1) y0 y1 y2 y3 y4 y5 y6))
 | 0 => fun _ _ _ _ _ _ _ r h => by simp [mapsheetslaw12_SphereTriangle.j0] at h
 | k + 1 => by
  have ih0 := mapsheetslaw12_SphereTriangle.mono_l k
  ·intro y0 y1 y2 y3 y4 y5 y6
   unfold mapsheetslaw12_SphereTriangle.j0
   repeat' first
   | (with_reducible exact ih0 _ _ _ _ _ _ _)
   | (with_reducible exact mapsheetslaw12_awake.mono _)
   | (with_reducible exact sphere_Chord.mono _ _ _ _ _)
   | (with_reducible exact LeO.refl _)
   | (with_reducible exact LeO.none _)
   | (with_reducible refine LeO.ite ?_ ?_)
   | (with_reducible refine LeO.bind ?_ (fun _ => ?_))
   | exact ih0 _ _ _ _ _ _ _
   | exact mapsheetslaw12_awake.mono _
   | exact sphere_Chord.mono _ _ _ _ _
   | exact LeO.none _
   | refine LeO.ite ?_ ?_
   | refine LeO.bind ?_ (fun _ => ?_)
theorem mapsheetslaw12_SphereTriangle.mono : ∀ a0 a1 a2 a3 a4 a5 k, LeO (mapsheetslaw12_SphereTriangle.f k a0 a1 a2 a3 a4 a5) (mapsheetslaw12_SphereTriangle.f (k + 1) a0 a1 a2 a3 a4 a5) := by
 intro a0 a1 a2 a3 a4 a5 k
 have ih0 := mapsheetslaw12_SphereTriangle.mono_l k
 unfold mapsheetslaw12_SphereTriangle.f
 repeat' first
   | (with_reducible exact ih0 _ _ _ _ _ _ _)
   | (with_reducible exact mapsheetslaw12_awake.mono _)
   | (with_reducible exact sphere_Chord.mono _ _ _ _ _)
   | (with_reducible exact LeO.refl _)
   | (with_reducible exact LeO.none _)
   | (with_reducible refine LeO.ite ?_ ?_)
   | (with_reducible refine LeO.bind ?_ (fun _ => ?_))
   | exact ih0 _ _ _ _ _ _ _
   | exact mapsheetslaw12_awake.mono _
   | exact sphere_Chord.mono _ _ _ _ _
   | exact LeO.none _
   | refine LeO.ite ?_ ?_
   | refine LeO.bind ?_ (fun _ => ?_)
def mapsheetslaw12_SphereTriangle.T4 : Bool × List (List Nat × List Nat) := (true, [([], []), ([], []), ([], []), ([1, 2], [1, 2]), ([0, 3], [0, 3]), ([4, 3], [4]), ([5], [5]), ([5], [5]), ([6, 7, 5, 5], [5, 6, 7]), ([8, 5], [5, 8]), ([5, 9], [5, 9]), ([10, 8], [10]), ([11], [11]), ([11], [11]), ([11], [11]), ([13, 14, 11, 11], [11, 13, 14]), ([11], [11]), ([11], [11]), ([16, 17, 15, 11], [11, 16, 17]), ([15, 18, 11], [11, 15, 18]), ([19, 11], [11, 19]), ([12, 20, 11], [11, 12, 20]), ([11, 21], [11, 21]), ([22, 18], [22]), ([23, 23], [23]), ([23, 24], [23, 24]), ([25, 24, 0, 1, 2, 3, 4, 5, 6, 7, 8, 9, 10, 11, 12, 13, 14, 15, 16, 17, 18, 19, 20, 21, 22, 23, 24, 25], [25])])
def mapsheetslaw12_SphereTriangle.B4 : List Nat := [0, 0, 0, 6, 15, 31, 63, 63, 255, 511, 1023, 2047, 4095, 4095, 4095, 28671, 4095, 4095, 258047, 520191, 1044479, 2097151, 4194303, 8388607, 16777215, 33554431, 67108863]
theorem mapsheetslaw12_SphereTriangle.tab4 : rtab .any (opsOf Try.f9 4) = mapsheetslaw12_SphereTriangle.T4 := by kernel_rfl
theorem mapsheetslaw12_SphereTriangle.bits4 : waitsOk mapsheetslaw12_SphereTriangle.T4.2 mapsheetslaw12_SphereTriangle.B4 = true := by kernel_rfl
set_option maxHeartbeats 8000000 in
set_option maxRecDepth 100000 in
theorem mapsheetslaw12_SphereTriangle.calls (k : Nat) (a0_0 : Int) (a0_1 : Int) (a1_0 : Int) (a1_1 : Int) (a2_0 : Int) (a2_1 : Int) (r : Bool) (w : World) (h : mapsheetslaw12_SphereTriangle.f k a0_0 a0_1 a1_0 a1_1 a2_0 a2_1 = some r) :
  Calls Try.prog 9 #[.agg #[.int .i64 a0_0, .int .i64 a0_1], .agg #[.int .i64 a1_0, .int .i64 a1_1], .agg #[.int .i64 a2_0, .int .i64 a2_1]] w fun e w' => e = .returned (.bool r) ∧ Below w.heap.size w w' := by
 have hu23 := Try.underlying23
 have HB := Aside0.mk (Below.refl w.heap.size w)
 have H : ((mapsheetsref12_Valid.f a0_0 a0_1).bind fun t390 => (if t390 = true then ((mapsheetsref12_Valid.f a1_0 a1_1).bind fun t391 => (if t391 = true then ((mapsheetsref12_Valid.f a2_0 a2_1).bind fun t392 => (mapsheetslaw12_SphereTriangle.j0 k (!t392) a0_0 a0_1 a1_0 a1_1 a2_0 a2_1)) else (mapsheetslaw12_SphereTriangle.j0 k true a0_0 a0_1 a1_0 a1_1 a2_0 a2_1))) else (mapsheetslaw12_SphereTriangle.j0 k true a0_0 a0_1 a1_0 a1_1 a2_0 a2_1))) = some r := h
 clear h
 have HC4 := Aside0.mk H
 clear H
 go_enter Try.func9, Try.ntmps9
 go_upto_region 1 with (first | ((with_reducible refine gate_dst (N := 3) rfl ?_); refine box_event ?hg (N := 3) ?hd (cs := #[.int .i64 a0_0, .int .i64 a0_1]) (t := 23) ?hr ?_; (case hd => rfl); (case hg => rfl); (case hr => first | (go_simp; done) | (go_simp; rfl)); intro gb387 hg w5 hbox hb; have n0_ := Aside0.mk (below_step (by with_reducible repeat first | exact HB.out | apply ba | apply bn | apply bd) hb); have n1_ := Aside0.mk (hbox); have n2_ := Aside0.mk ((by rw [hg]; exact (below_size (by with_reducible repeat first | exact HB.out | apply ba | apply bn | apply bd)) : w.heap.size ≤ gb387)); have n3_ := Aside0.mk ((by rw [hg]; exact (below_size (by with_reducible repeat first | exact HB.out | apply ba | apply bn | apply bd)) : w.heap.size ≤ gb387)); clear HB; have HB := n0_; have BK387 := n1_; have GW387 := n2_; have GE387 := n3_; clear n0_ n1_ n2_ n3_; clear hb hbox hg) | ((with_reducible refine gate_dst (N := 4) rfl ?_); refine box_event ?hg (N := 4) ?hd (cs := #[.int .i64 a1_0, .int .i64 a1_1]) (t := 23) ?hr ?_; (case hd => rfl); (case hg => rfl); (case hr => first | (go_simp; done) | (go_simp; rfl)); intro gb388 hg w6 hbox hb; have n0_ := Aside0.mk (blk_below (g := gb387) (o := .cells #[.int .i64 a0_0, .int .i64 a0_1] 23 (0, 0)) BK387.out hb); have n1_ := Aside0.mk (below_step (by with_reducible repeat first | exact HB.out | apply ba | apply bn | apply bd | refine bs ?_ GE387.out) hb); have n2_ := Aside0.mk (hbox); have n3_ := Aside0.mk ((by rw [hg]; exact (below_size (by with_reducible repeat first | exact HB.out | apply ba | apply bn | apply bd | refine bs ?_ GE387.out)) : w.heap.size ≤ gb388)); have n4_ := Aside0.mk ((by rw [hg]; exact (below_size (by with_reducible repeat first | exact HB.out | apply ba | apply bn | apply bd | refine bs ?_ GE387.out)) : w.heap.size ≤ gb388)); have n5_ := Aside0.mk ((by rw [hg]; exact Nat.ne_of_lt (blk_lt (g := gb387) (o := .cells #[.int .i64 a0_0, .int .i64 a0_1] 23 (0, 0)) BK387.out) : gb387 ≠ gb388)); have n6_ := Aside0.mk ((by rw [hg]; exact Nat.ne_of_gt (blk_lt (g := gb387) (o := .cells #[.int .i64 a0_0, .int .i64 a0_1] 23 (0, 0)) BK387.out) : gb388 ≠ gb387)); clear BK387; clear HB; have BK387 := n0_; have HB := n1_; have BK388 := n2_; have GW388 := n3_; have GE388 := n4_; have NB387_388 := n5_; have NB388_387 := n6_; clear n0_ n1_ n2_ n3_ n4_ n5_ n6_; clear hb hbox hg) | ((with_reducible refine gate_dst (N := 5) rfl ?_); refine box_event ?hg (N := 5) ?hd (cs := #[.int .i64 a2_0, .int .i64 a2_1]) (t := 23) ?hr ?_; (case hd => rfl); (case hg => rfl); (case hr => first | (go_simp; done) | (go_simp; rfl)); intro gb389 hg w7 hbox hb; have n0_ := Aside0.mk (blk_below (g := gb387) (o := .cells #[.int .i64 a0_0, .int .i64 a0_1] 23 (0, 0)) BK387.out hb); have n1_ := Aside0.mk (blk_below (g := gb388) (o := .cells #[.int .i64 a1_0, .int .i64 a1_1] 23 (0, 0)) BK388.out hb); have n2_ := Aside0.mk (below_step (by with_reducible repeat first | exact HB.out | apply ba | apply bn | apply bd | refine bs ?_ GE387.out | refine bs ?_ GE388.out) hb); have n3_ := Aside0.mk (hbox); have n4_ := Aside0.mk ((by rw [hg]; exact (below_size (by with_reducible repeat first | exact HB.out | apply ba | apply bn | apply bd | refine bs ?_ GE387.out | refine bs ?_ GE388.out)) : w.heap.size ≤ gb389)); have n5_ := Aside0.mk ((by rw [hg]; exact (below_size (by with_reducible repeat first | exact HB.out | apply ba | apply bn | apply bd | refine bs ?_ GE387.out | refine bs ?_ GE388.out)) : w.heap.size ≤ gb389)); have n6_ := Aside0.mk ((by rw [hg]; exact Nat.ne_of_lt (blk_lt (g := gb387) (o := .cells #[.int .i64 a0_0, .int .i64 a0_1] 23 (0, 0)) BK387.out) : gb387 ≠ gb389)); have n7_ := Aside0.mk ((by rw [hg]; exact Nat.ne_of_gt (blk_lt (g := gb387) (o := .cells #[.int .i64 a0_0, .int .i64 a0_1] 23 (0, 0)) BK387.out) : gb389 ≠ gb387)); have n8_ := Aside0.mk ((by rw [hg]; exact Nat.ne_of_lt (blk_lt (g := gb388) (o := .cells #[.int .i64 a1_0, .int .i64 a1_1] 23 (0, 0)) BK388.out) : gb388 ≠ gb389)); have n9_ := Aside0.mk ((by rw [hg]; exact Nat.ne_of_gt (blk_lt (g := gb388) (o := .cells #[.int .i64 a1_0, .int .i64 a1_1] 23 (0, 0)) BK388.out) : gb389 ≠ gb388)); clear BK387; clear BK388; clear HB; have BK387 := n0_; have BK388 := n1_; have HB := n2_; have BK389 := n3_; have GW389 := n4_; have GE389 := n5_; have NB387_389 := n6_; have NB389_387 := n7_; have NB388_389 := n8_; have NB389_388 := n9_; clear n0_ n1_ n2_ n3_ n4_ n5_ n6_ n7_ n8_ n9_; clear hb hbox hg))
 (try simp only [Act.put, s1, s2, s3])
 go_cut [20] (fun v20 wc => ∃ (kq : Nat) (x20_3 : Bool), v20 = .bool x20_3 ∧ Aside0 (mapsheetslaw12_SphereTriangle.j0 kq x20_3 a0_0 a0_1 a1_0 a1_1 a2_0 a2_1 = some r) ∧ Aside0 (kq ≤ k) ∧ Aside0 (wc.heap[gb387]? = some (.cells #[.int .i64 a0_0, .int .i64 a0_1] 23 (0, 0))) ∧ Aside0 (wc.heap[gb388]? = some (.cells #[.int .i64 a1_0, .int .i64 a1_1] 23 (0, 0))) ∧ Aside0 (wc.heap[gb389]? = some (.cells #[.int .i64 a2_0, .int .i64 a2_1] 23 (0, 0))) ∧ Aside0 (Below w.heap.size w wc))
 case first =>
  have H := HC4.out
  clear HC4
  replace H := Option.bind_eq_some_iff.mp H
  obtain ⟨t390, A80, H⟩ := H
  replace H : (if t390 = true then ((mapsheetsref12_Valid.f a1_0 a1_1).bind fun t391 => (if t391 = true then ((mapsheetsref12_Valid.f a2_0 a2_1).bind fun t392 => (mapsheetslaw12_SphereTriangle.j0 k (!t392) a0_0 a0_1 a1_0 a1_1 a2_0 a2_1)) else (mapsheetslaw12_SphereTriangle.j0 k true a0_0 a0_1 a1_0 a1_1 a2_0 a2_1))) else (mapsheetslaw12_SphereTriangle.j0 k true a0_0 a0_1 a1_0 a1_1 a2_0 a2_1)) = some r := H
  have A8 := Aside0.mk A80
  clear A80
  by_cases c9 : t390 = true
  ·subst c9
   have H1 : ((mapsheetsref12_Valid.f a1_0 a1_1).bind fun t391 => (if t391 = true then ((mapsheetsref12_Valid.f a2_0 a2_1).bind fun t392 => (mapsheetslaw12_SphereTriangle.j0 k (!t392) a0_0 a0_1 a1_0 a1_1 a2_0 a2_1)) else (mapsheetslaw12_SphereTriangle.j0 k true a0_0 a0_1 a1_0 a1_1 a2_0 a2_1))) = some r := by rw [if_pos rfl] at H; exact H
   clear H
   have H := H1
   clear H1
   replace H := Option.bind_eq_some_iff.mp H
   obtain ⟨t391, A100, H⟩ := H
   replace H : (if t391 = true then ((mapsheetsref12_Valid.f a2_0 a2_1).bind fun t392 => (mapsheetslaw12_SphereTriangle.j0 k (!t392) a0_0 a0_1 a1_0 a1_1 a2_0 a2_1)) else (mapsheetslaw12_SphereTriangle.j0 k true a0_0 a0_1 a1_0 a1_1 a2_0 a2_1)) = some r := H
   have A10 := Aside0.mk A100
   clear A100
   by_cases c11 : t391 = true
   ·subst c11
    have H1 : ((mapsheetsref12_Valid.f a2_0 a2_1).bind fun t392 => (mapsheetslaw12_SphereTriangle.j0 k (!t392) a0_0 a0_1 a1_0 a1_1 a2_0 a2_1)) = some r := by rw [if_pos rfl] at H; exact H
    clear H
    have H := H1
    clear H1
    replace H := Option.bind_eq_some_iff.mp H
    obtain ⟨t392, A120, H⟩ := H
    replace H : (mapsheetslaw12_SphereTriangle.j0 k (!t392) a0_0 a0_1 a1_0 a1_1 a2_0 a2_1) = some r := H
    have A12 := Aside0.mk A120
    clear A120
    have H' := Aside0.mk H
    clear H
    have hnb13 := NB387_388.out
    have hnc13 := NB388_387.out
    have hnb14 := NB387_389.out
    have hnc14 := NB389_387.out
    have hcz15_0 : w7.cell? ⟨gb387, 0, none⟩ = some (.int .i64 a0_0) := (blk_cell BK387.out 0).trans rfl
    have hcz15_1 : w7.cell? ⟨gb387, 1, none⟩ = some (.int .i64 a0_1) := (blk_cell BK387.out 1).trans rfl
    have hfz15_0 := blk_frozen BK387.out 0
    have hfz15_1 := blk_frozen BK387.out 1
    go_wp2_with (first | ((with_reducible refine gate_callee (f := 11) rfl ?_); refine goesL_ (some 9) rfl rfl Try.func11 (by kernel_rfl) rfl #[.agg #[.int .i64 a0_0, .int .i64 a0_1]] rfl (by (try simp only [List.map_toArray, List.map_cons, List.map_nil]); first | done | rfl | (simp only [List.length_drop, List.length_take]; rfl)) ?_; (with_reducible refine (mapsheetsref12_Valid.calls a0_0 a0_1 true _ A8.out).mono ?_); rintro e w16 ⟨rfl, hb⟩; refine ⟨_, rfl, ?_⟩; have n0_ := Aside0.mk (blk_below (g := gb387) (o := .cells #[.int .i64 a0_0, .int .i64 a0_1] 23 (0, 0)) BK387.out hb); have n1_ := Aside0.mk (blk_below (g := gb388) (o := .cells #[.int .i64 a1_0, .int .i64 a1_1] 23 (0, 0)) BK388.out hb); have n2_ := Aside0.mk (blk_below (g := gb389) (o := .cells #[.int .i64 a2_0, .int .i64 a2_1] 23 (0, 0)) BK389.out hb); have n3_ := Aside0.mk (below_step (by with_reducible repeat first | exact HB.out | apply ba | apply bn | apply bd | refine bs ?_ GE387.out | refine bs ?_ GE388.out | refine bs ?_ GE389.out) hb); clear BK387; clear BK388; clear BK389; clear HB; have BK387 := n0_; have BK388 := n1_; have BK389 := n2_; have HB := n3_; clear n0_ n1_ n2_ n3_; (try clear hb); (try clear hb2); (try clear hk); (try clear hi); have hnb17 := NB388_389.out; have hnc17 := NB389_388.out; have hcz18_0 : w16.cell? ⟨gb388, 0, none⟩ = some (.int .i64 a1_0) := (blk_cell BK388.out 0).trans rfl; have hcz18_1 : w16.cell? ⟨gb388, 1, none⟩ = some (.int .i64 a1_1) := (blk_cell BK388.out 1).trans rfl; have hfz18_0 := blk_frozen BK388.out 0; have hfz18_1 := blk_frozen BK388.out 1) | (go_at_call 11; (with_reducible refine (mapsheetsref12_Valid.calls a1_0 a1_1 true _ A10.out).mono ?_); rintro e w19 ⟨rfl, hb⟩; have n0_ := Aside0.mk (blk_below (g := gb387) (o := .cells #[.int .i64 a0_0, .int .i64 a0_1] 23 (0, 0)) BK387.out hb); have n1_ := Aside0.mk (blk_below (g := gb388) (o := .cells #[.int .i64 a1_0, .int .i64 a1_1] 23 (0, 0)) BK388.out hb); have n2_ := Aside0.mk (blk_below (g := gb389) (o := .cells #[.int .i64 a2_0, .int .i64 a2_1] 23 (0, 0)) BK389.out hb); have n3_ := Aside0.mk (below_step (by with_reducible repeat first | exact HB.out | apply ba | apply bn | apply bd | refine bs ?_ GE387.out | refine bs ?_ GE388.out | refine bs ?_ GE389.out) hb); clear BK387; clear BK388; clear BK389; clear HB; have BK387 := n0_; have BK388 := n1_; have BK389 := n2_; have HB := n3_; clear n0_ n1_ n2_ n3_; (try clear hb); (try clear hb2); (try clear hk); (try clear hi); have hcz20_0 : w19.cell? ⟨gb389, 0, none⟩ = some (.int .i64 a2_0) := (blk_cell BK389.out 0).trans rfl; have hcz20_1 : w19.cell? ⟨gb389, 1, none⟩ = some (.int .i64 a2_1) := (blk_cell BK389.out 1).trans rfl; have hfz20_0 := blk_frozen BK389.out 0; have hfz20_1 := blk_frozen BK389.out 1) | (go_at_call 11; (with_reducible refine (mapsheetsref12_Valid.calls a2_0 a2_1 t392 _ A12.out).mono ?_); rintro e w21 ⟨rfl, hb⟩; have n0_ := Aside0.mk (blk_below (g := gb387) (o := .cells #[.int .i64 a0_0, .int .i64 a0_1] 23 (0, 0)) BK387.out hb); have n1_ := Aside0.mk (blk_below (g := gb388) (o := .cells #[.int .i64 a1_0, .int .i64 a1_1] 23 (0, 0)) BK388.out hb); have n2_ := Aside0.mk (blk_below (g := gb389) (o := .cells #[.int .i64 a2_0, .int .i64 a2_1] 23 (0, 0)) BK389.out hb); have n3_ := Aside0.mk (below_step (by with_reducible repeat first | exact HB.out | apply ba | apply bn | apply bd | refine bs ?_ GE387.out | refine bs ?_ GE388.out | refine bs ?_ GE389.out) hb); clear BK387; clear BK388; clear BK389; clear HB; have BK387 := n0_; have BK388 := n1_; have BK389 := n2_; have HB := n3_; clear n0_ n1_ n2_ n3_; (try clear hb); (try clear hb2); (try clear hk); (try clear hi)))
    go_meet
    case rel => exact ⟨_, (!t392), (by first | rfl | (simp; done) | (simp [*]; done)), H', ⟨by first | omega | exact Nat.le_refl _⟩, BK387, BK388, BK389, ⟨by with_reducible repeat first | exact HB.out | apply ba | apply bn | apply bd | refine bs ?_ GE387.out | refine bs ?_ GE388.out | refine bs ?_ GE389.out⟩⟩
   ·replace c11 := Bool.eq_false_iff.mpr c11
    subst c11
    have H1 : (mapsheetslaw12_SphereTriangle.j0 k true a0_0 a0_1 a1_0 a1_1 a2_0 a2_1) = some r := by rw [if_neg (show ¬ (false = true) by decide)] at H; exact H
    clear H
    have H := H1
    clear H1
    have H' := Aside0.mk H
    clear H
    have hnb22 := NB387_388.out
    have hnc22 := NB388_387.out
    have hnb23 := NB387_389.out
    have hnc23 := NB389_387.out
    have hcz24_0 : w7.cell? ⟨gb387, 0, none⟩ = some (.int .i64 a0_0) := (blk_cell BK387.out 0).trans rfl
    have hcz24_1 : w7.cell? ⟨gb387, 1, none⟩ = some (.int .i64 a0_1) := (blk_cell BK387.out 1).trans rfl
    have hfz24_0 := blk_frozen BK387.out 0
    have hfz24_1 := blk_frozen BK387.out 1
    go_wp2_with (first | ((with_reducible refine gate_callee (f := 11) rfl ?_); refine goesL_ (some 9) rfl rfl Try.func11 (by kernel_rfl) rfl #[.agg #[.int .i64 a0_0, .int .i64 a0_1]] rfl (by (try simp only [List.map_toArray, List.map_cons, List.map_nil]); first | done | rfl | (simp only [List.length_drop, List.length_take]; rfl)) ?_; (with_reducible refine (mapsheetsref12_Valid.calls a0_0 a0_1 true _ A8.out).mono ?_); rintro e w25 ⟨rfl, hb⟩; refine ⟨_, rfl, ?_⟩; have n0_ := Aside0.mk (blk_below (g := gb387) (o := .cells #[.int .i64 a0_0, .int .i64 a0_1] 23 (0, 0)) BK387.out hb); have n1_ := Aside0.mk (blk_below (g := gb388) (o := .cells #[.int .i64 a1_0, .int .i64 a1_1] 23 (0, 0)) BK388.out hb); have n2_ := Aside0.mk (blk_below (g := gb389) (o := .cells #[.int .i64 a2_0, .int .i64 a2_1] 23 (0, 0)) BK389.out hb); have n3_ := Aside0.mk (below_step (by with_reducible repeat first | exact HB.out | apply ba | apply bn | apply bd | refine bs ?_ GE387.out | refine bs ?_ GE388.out | refine bs ?_ GE389.out) hb); clear BK387; clear BK388; clear BK389; clear HB; have BK387 := n0_; have BK388 := n1_; have BK389 := n2_; have HB := n3_; clear n0_ n1_ n2_ n3_; (try clear hb); (try clear hb2); (try clear hk); (try clear hi); have hnb26 := NB388_389.out; have hnc26 := NB389_388.out; have hcz27_0 : w25.cell? ⟨gb388, 0, none⟩ = some (.int .i64 a1_0) := (blk_cell BK388.out 0).trans rfl; have hcz27_1 : w25.cell? ⟨gb388, 1, none⟩ = some (.int .i64 a1_1) := (blk_cell BK388.out 1).trans rfl; have hfz27_0 := blk_frozen BK388.out 0; have hfz27_1 := blk_frozen BK388.out 1) | (go_at_call 11; (with_reducible refine (mapsheetsref12_Valid.calls a1_0 a1_1 false _ A10.out).mono ?_); rintro e w28 ⟨rfl, hb⟩; have n0_ := Aside0.mk (blk_below (g := gb387) (o := .cells #[.int .i64 a0_0, .int .i64 a0_1] 23 (0, 0)) BK387.out hb); have n1_ := Aside0.mk (blk_below (g := gb388) (o := .cells #[.int .i64 a1_0, .int .i64 a1_1] 23 (0, 0)) BK388.out hb); have n2_ := Aside0.mk (blk_below (g := gb389) (o := .cells #[.int .i64 a2_0, .int .i64 a2_1] 23 (0, 0)) BK389.out hb); have n3_ := Aside0.mk (below_step (by with_reducible repeat first | exact HB.out | apply ba | apply bn | apply bd | refine bs ?_ GE387.out | refine bs ?_ GE388.out | refine bs ?_ GE389.out) hb); clear BK387; clear BK388; clear BK389; clear HB; have BK387 := n0_; have BK388 := n1_; have BK389 := n2_; have HB := n3_; clear n0_ n1_ n2_ n3_; (try clear hb); (try clear hb2); (try clear hk); (try clear hi)))
    go_meet
    case rel => exact ⟨_, (true), (by first | rfl | (simp; done) | (simp [*]; done)), H', ⟨by first | omega | exact Nat.le_refl _⟩, BK387, BK388, BK389, ⟨by with_reducible repeat first | exact HB.out | apply ba | apply bn | apply bd | refine bs ?_ GE387.out | refine bs ?_ GE388.out | refine bs ?_ GE389.out⟩⟩
  ·replace c9 := Bool.eq_false_iff.mpr c9
   subst c9
   have H1 : (mapsheetslaw12_SphereTriangle.j0 k true a0_0 a0_1 a1_0 a1_1 a2_0 a2_1) = some r := by rw [if_neg (show ¬ (false = true) by decide)] at H; exact H
   clear H
   have H := H1
   clear H1
   have H' := Aside0.mk H
   clear H
   have hnb29 := NB387_388.out
   have hnc29 := NB388_387.out
   have hnb30 := NB387_389.out
   have hnc30 := NB389_387.out
   have hcz31_0 : w7.cell? ⟨gb387, 0, none⟩ = some (.int .i64 a0_0) := (blk_cell BK387.out 0).trans rfl
   have hcz31_1 : w7.cell? ⟨gb387, 1, none⟩ = some (.int .i64 a0_1) := (blk_cell BK387.out 1).trans rfl
   have hfz31_0 := blk_frozen BK387.out 0
   have hfz31_1 := blk_frozen BK387.out 1
   go_wp2_with (first | ((with_reducible refine gate_callee (f := 11) rfl ?_); refine goesL_ (some 9) rfl rfl Try.func11 (by kernel_rfl) rfl #[.agg #[.int .i64 a0_0, .int .i64 a0_1]] rfl (by (try simp only [List.map_toArray, List.map_cons, List.map_nil]); first | done | rfl | (simp only [List.length_drop, List.length_take]; rfl)) ?_; (with_reducible refine (mapsheetsref12_Valid.calls a0_0 a0_1 false _ A8.out).mono ?_); rintro e w32 ⟨rfl, hb⟩; refine ⟨_, rfl, ?_⟩; have n0_ := Aside0.mk (blk_below (g := gb387) (o := .cells #[.int .i64 a0_0, .int .i64 a0_1] 23 (0, 0)) BK387.out hb); have n1_ := Aside0.mk (blk_below (g := gb388) (o := .cells #[.int .i64 a1_0, .int .i64 a1_1] 23 (0, 0)) BK388.out hb); have n2_ := Aside0.mk (blk_below (g := gb389) (o := .cells #[.int .i64 a2_0, .int .i64 a2_1] 23 (0, 0)) BK389.out hb); have n3_ := Aside0.mk (below_step (by with_reducible repeat first | exact HB.out | apply ba | apply bn | apply bd | refine bs ?_ GE387.out | refine bs ?_ GE388.out | refine bs ?_ GE389.out) hb); clear BK387; clear BK388; clear BK389; clear HB; have BK387 := n0_; have BK388 := n1_; have BK389 := n2_; have HB := n3_; clear n0_ n1_ n2_ n3_; (try clear hb); (try clear hb2); (try clear hk); (try clear hi)))
   go_meet
   case rel => exact ⟨_, (true), (by first | rfl | (simp; done) | (simp [*]; done)), H', ⟨by first | omega | exact Nat.le_refl _⟩, BK387, BK388, BK389, ⟨by with_reducible repeat first | exact HB.out | apply ba | apply bn | apply bd | refine bs ?_ GE387.out | refine bs ?_ GE388.out | refine bs ?_ GE389.out⟩⟩
 case rest =>
  clear HC4
  try clear c1
  try clear c2
  try clear p2
  try clear c3
  try clear c9
  try clear c11
  try clear c13
  try clear c14
  try clear c17
  try clear c22
  try clear c23
  try clear c26
  try clear c29
  try clear c30
  try clear hcz15_0
  try clear hcz15_1
  try clear hcz18_0
  try clear hcz18_1
  try clear hcz20_0
  try clear hcz20_1
  try clear hcz24_0
  try clear hcz24_1
  try clear hcz27_0
  try clear hcz27_1
  try clear hcz31_0
  try clear hcz31_1
  try clear hfz15_0
  try clear hfz15_1
  try clear hfz18_0
  try clear hfz18_1
  try clear hfz20_0
  try clear hfz20_1
  try clear hfz24_0
  try clear hfz24_1
  try clear hfz27_0
  try clear hfz27_1
  try clear hfz31_0
  try clear hfz31_1
  obtain ⟨kq, x20_3, rfl, HA, HJ3, BK387, BK388, BK389, HB⟩ := hcut
  cases kq with
  | zero => exact absurd HA.out (by simp [mapsheetslaw12_SphereTriangle.j0])
  | succ kj3 =>
   have H := HA.out
   clear HA
   simp only [mapsheetslaw12_SphereTriangle.j0] at H
   by_cases c33 : x20_3 = true
   ·subst c33
    have H1 : ((mapsheetslaw12_awake.f kj3).bind fun t393 => (some t393)) = some r := by rw [if_pos rfl] at H; exact H
    clear H
    have H := H1
    clear H1
    replace H := Option.bind_eq_some_iff.mp H
    obtain ⟨t393, A340, H⟩ := H
    replace H : (some t393) = some r := H
    have A34 := Aside0.mk A340
    clear A340
    obtain rfl := Option.some.inj H
    go_wp2_with (first | ((with_reducible refine gate_callee (f := 14) rfl ?_); refine goesL_ (some 21) rfl rfl Try.func14 (by kernel_rfl) rfl #[] rfl (by (try simp only [List.map_toArray, List.map_cons, List.map_nil]); first | done | rfl | (simp only [List.length_drop, List.length_take]; rfl)) ?_; (with_reducible refine (mapsheetslaw12_awake.calls kj3  t393 _ A34.out).mono ?_); rintro e w35 ⟨rfl, hb⟩; refine ⟨_, rfl, ?_⟩; have n0_ := Aside0.mk (blk_below (g := gb387) (o := .cells #[.int .i64 a0_0, .int .i64 a0_1] 23 (0, 0)) BK387.out hb); have n1_ := Aside0.mk (blk_below (g := gb388) (o := .cells #[.int .i64 a1_0, .int .i64 a1_1] 23 (0, 0)) BK388.out hb); have n2_ := Aside0.mk (blk_below (g := gb389) (o := .cells #[.int .i64 a2_0, .int .i64 a2_1] 23 (0, 0)) BK389.out hb); have n3_ := Aside0.mk (below_step (by with_reducible repeat first | exact HB.out | apply ba | apply bn | apply bd | refine bs ?_ GE387.out | refine bs ?_ GE388.out | refine bs ?_ GE389.out) hb); clear BK387; clear BK388; clear BK389; clear HB; have BK387 := n0_; have BK388 := n1_; have BK389 := n2_; have HB := n3_; clear n0_ n1_ n2_ n3_; (try clear hb); (try clear hb2); (try clear hk); (try clear hi)))
    go_ret
    exact ⟨by first | rfl | (simp [errW_none, errW_some] <;> rfl) | (simp [*, errW_none, errW_some] <;> rfl), by with_reducible repeat first | exact HB.out | apply ba | apply bn | apply bd | refine bs ?_ GE387.out | refine bs ?_ GE388.out | refine bs ?_ GE389.out⟩
   ·replace c33 := Bool.eq_false_iff.mpr c33
    subst c33
    have H1 : ((sphere_Chord.f kj3 a0_0 a0_1 a1_0 a1_1).bind fun t394 => ((sphere_Chord.f kj3 a1_0 a1_1 a0_0 a0_1).bind fun t395 => (if t394 = t395 then ((sphere_Chord.f kj3 a0_0 a0_1 a0_0 a0_1).bind fun t396 => (if t396 = 0 then ((sphere_Chord.f kj3 a0_0 a0_1 a2_0 a2_1).bind fun t397 => ((sphere_Chord.f kj3 a2_0 a2_1 a1_0 a1_1).bind fun t398 => (if t394 ≤ (wrap64 ((wrap64 (t397 + t398)) + 1)) then ((mapsheetslaw12_awake.f kj3).bind fun t399 => (some t399)) else (none)))) else (none))) else (none)))) = some r := by rw [if_neg (show ¬ (false = true) by decide)] at H; exact H
    clear H
    have H := H1
    clear H1
    replace H := Option.bind_eq_some_iff.mp H
    obtain ⟨t394, A360, H⟩ := H
    replace H : ((sphere_Chord.f kj3 a1_0 a1_1 a0_0 a0_1).bind fun t395 => (if t394 = t395 then ((sphere_Chord.f kj3 a0_0 a0_1 a0_0 a0_1).bind fun t396 => (if t396 = 0 then ((sphere_Chord.f kj3 a0_0 a0_1 a2_0 a2_1).bind fun t397 => ((sphere_Chord.f kj3 a2_0 a2_1 a1_0 a1_1).bind fun t398 => (if t394 ≤ (wrap64 ((wrap64 (t397 + t398)) + 1)) then ((mapsheetslaw12_awake.f kj3).bind fun t399 => (some t399)) else (none)))) else (none))) else (none))) = some r := H
    have A36 := Aside0.mk A360
    clear A360
    replace H := Option.bind_eq_some_iff.mp H
    obtain ⟨t395, A370, H⟩ := H
    replace H : (if t394 = t395 then ((sphere_Chord.f kj3 a0_0 a0_1 a0_0 a0_1).bind fun t396 => (if t396 = 0 then ((sphere_Chord.f kj3 a0_0 a0_1 a2_0 a2_1).bind fun t397 => ((sphere_Chord.f kj3 a2_0 a2_1 a1_0 a1_1).bind fun t398 => (if t394 ≤ (wrap64 ((wrap64 (t397 + t398)) + 1)) then ((mapsheetslaw12_awake.f kj3).bind fun t399 => (some t399)) else (none)))) else (none))) else (none)) = some r := H
    have A37 := Aside0.mk A370
    clear A370
    by_cases c38 : t394 = t395
    ·rw [if_pos c38] at H
     have c38b0 : (t394 == t395) = true := beq_iff_eq.mpr c38
     have c38b1 : (t394 != t395) = false := bne_eq_false_iff_eq.mpr c38
     clear c38
     replace H := Option.bind_eq_some_iff.mp H
     obtain ⟨t396, A390, H⟩ := H
     replace H : (if t396 = 0 then ((sphere_Chord.f kj3 a0_0 a0_1 a2_0 a2_1).bind fun t397 => ((sphere_Chord.f kj3 a2_0 a2_1 a1_0 a1_1).bind fun t398 => (if t394 ≤ (wrap64 ((wrap64 (t397 + t398)) + 1)) then ((mapsheetslaw12_awake.f kj3).bind fun t399 => (some t399)) else (none)))) else (none)) = some r := H
     have A39 := Aside0.mk A390
     clear A390
     by_cases c40 : t396 = 0
     ·rw [if_pos c40] at H
      have c40b0 : (t396 == 0) = true := beq_iff_eq.mpr c40
      have c40b1 : (t396 != 0) = false := bne_eq_false_iff_eq.mpr c40
      clear c40
      replace H := Option.bind_eq_some_iff.mp H
      obtain ⟨t397, A410, H⟩ := H
      replace H : ((sphere_Chord.f kj3 a2_0 a2_1 a1_0 a1_1).bind fun t398 => (if t394 ≤ (wrap64 ((wrap64 (t397 + t398)) + 1)) then ((mapsheetslaw12_awake.f kj3).bind fun t399 => (some t399)) else (none))) = some r := H
      have A41 := Aside0.mk A410
      clear A410
      replace H := Option.bind_eq_some_iff.mp H
      obtain ⟨t398, A420, H⟩ := H
      replace H : (if t394 ≤ (wrap64 ((wrap64 (t397 + t398)) + 1)) then ((mapsheetslaw12_awake.f kj3).bind fun t399 => (some t399)) else (none)) = some r := H
      have A42 := Aside0.mk A420
      clear A420
      by_cases c43 : t394 ≤ (wrap64 ((wrap64 (t397 + t398)) + 1))
      ·rw [if_pos c43] at H
       have c43b0 : decide (t394 ≤ (wrap64 ((wrap64 (t397 + t398)) + 1))) = true := decide_eq_true c43
       clear c43
       replace H := Option.bind_eq_some_iff.mp H
       obtain ⟨t399, A440, H⟩ := H
       replace H : (some t399) = some r := H
       have A44 := Aside0.mk A440
       clear A440
       obtain rfl := Option.some.inj H
       have hnb45 := NB387_388.out
       have hnc45 := NB388_387.out
       have hnb46 := NB387_389.out
       have hnc46 := NB389_387.out
       have hcz47_0 : wc.cell? ⟨gb387, 0, none⟩ = some (.int .i64 a0_0) := (blk_cell BK387.out 0).trans rfl
       have hcz47_1 : wc.cell? ⟨gb387, 1, none⟩ = some (.int .i64 a0_1) := (blk_cell BK387.out 1).trans rfl
       have hfz47_0 := blk_frozen BK387.out 0
       have hfz47_1 := blk_frozen BK387.out 1
       have hnb48 := NB388_389.out
       have hnc48 := NB389_388.out
       have hcz49_0 : wc.cell? ⟨gb388, 0, none⟩ = some (.int .i64 a1_0) := (blk_cell BK388.out 0).trans rfl
       have hcz49_1 : wc.cell? ⟨gb388, 1, none⟩ = some (.int .i64 a1_1) := (blk_cell BK388.out 1).trans rfl
       have hfz49_0 := blk_frozen BK388.out 0
       have hfz49_1 := blk_frozen BK388.out 1
       try go_wp2_with (first | ((with_reducible refine gate_callee (f := 19) rfl ?_); refine goesL_ (some 24) rfl rfl Try.func19 (by kernel_rfl) rfl #[.agg #[.int .i64 a0_0, .int .i64 a0_1], .agg #[.int .i64 a1_0, .int .i64 a1_1]] rfl (by (try simp only [List.map_toArray, List.map_cons, List.map_nil]); first | done | rfl | (simp only [List.length_drop, List.length_take]; rfl)) ?_; (with_reducible refine (sphere_Chord.calls kj3 a0_0 a0_1 a1_0 a1_1 t394 _ A36.out).mono ?_); rintro e w50 ⟨rfl, hb⟩; refine ⟨_, rfl, ?_⟩; have n0_ := Aside0.mk (blk_below (g := gb387) (o := .cells #[.int .i64 a0_0, .int .i64 a0_1] 23 (0, 0)) BK387.out hb); have n1_ := Aside0.mk (blk_below (g := gb388) (o := .cells #[.int .i64 a1_0, .int .i64 a1_1] 23 (0, 0)) BK388.out hb); have n2_ := Aside0.mk (blk_below (g := gb389) (o := .cells #[.int .i64 a2_0, .int .i64 a2_1] 23 (0, 0)) BK389.out hb); have n3_ := Aside0.mk (below_step (by with_reducible repeat first | exact HB.out | apply ba | apply bn | apply bd | refine bs ?_ GE387.out | refine bs ?_ GE388.out | refine bs ?_ GE389.out) hb); clear BK387; clear BK388; clear BK389; clear HB; have BK387 := n0_; have BK388 := n1_; have BK389 := n2_; have HB := n3_; clear n0_ n1_ n2_ n3_; (try clear hb); (try clear hb2); (try clear hk); (try clear hi)))
       have n0_ := Aside0.mk (blk_drew BK387.out)
       have n1_ := Aside0.mk (blk_drew BK388.out)
       have n2_ := Aside0.mk (blk_drew BK389.out)
       have n3_ := Aside0.mk (below_drew1 HB.out)
       clear BK387
       clear BK388
       clear BK389
       clear HB
       have BK387 := n0_
       have BK388 := n1_
       have BK389 := n2_
       have HB := n3_
       clear n0_ n1_ n2_ n3_
       refine start_ (n := 27) (S := fun w' => w'.cell? ⟨gb388, 0, none⟩ = some (.int .i64 a1_0) ∧ w'.cell? ⟨gb388, 1, none⟩ = some (.int .i64 a1_1) ∧ w'.cell? ⟨gb387, 0, none⟩ = some (.int .i64 a0_0) ∧ w'.cell? ⟨gb387, 1, none⟩ = some (.int .i64 a0_1) ∧ w'.cell? ⟨gb389, 0, none⟩ = some (.int .i64 a2_0) ∧ w'.cell? ⟨gb389, 1, none⟩ = some (.int .i64 a2_1)) (ds := []) #[false, false, false, false, false, false, false, false, false, false, false, false, false, false, false, false, false, false, false, false, false, false, false, false, false, false, false] (by kernel_rfl) rfl rfl ⟨(blk_cell BK388.out 0).trans rfl, (blk_cell BK388.out 1).trans rfl, (blk_cell BK387.out 0).trans rfl, (blk_cell BK387.out 1).trans rfl, (blk_cell BK389.out 0).trans rfl, (blk_cell BK389.out 1).trans rfl⟩ (fun hHeld => ?_); refine with_tabW mapsheetslaw12_SphereTriangle.tab4 mapsheetslaw12_SphereTriangle.bits4 (fun HT_ HW_ => ?_)
       generalize w50.drew = w51 at BK387 BK388 BK389 HB hHeld ⊢
       refine pure_ (i := 0) (N := some 25) (v := ?_) (a' := ?_) #[true, false, false, false, false, false, false, false, false, false, false, false, false, false, false, false, false, false, false, false, false, false, false, false, false, false, false] rfl rfl (any_of HT_.out (by kernel_rfl)) (fun _ _ _ h => h) (Or.inl ⟨by rfl, ?_⟩) ?_ ?_
       rotate_left
       ·intro w'
        go_simp
        with_reducible rfl
       rotate_left
       ·simp only [Act.put, s1, s2, s3, i64_w, i32_w]
        rfl
       refine take_ (i := 1) (N := some 26) (v := ?_) (a' := ?_) #[true, true, false, false, false, false, false, false, false, false, false, false, false, false, false, false, false, false, false, false, false, false, false, false, false, false, false] rfl rfl (take_ofW HT_.out HW_.out (by kernel_rfl)) (fun _ _ _ h => h) (Or.inl ⟨by rfl, ?_⟩) hHeld ?_ ?_
       rotate_left
       ·rintro w' ⟨s0, s1, s2, s3, s4, s5⟩
        go_simp
        with_reducible rfl
       rotate_left
       ·simp only [Act.put, s1, s2, s3, i64_w, i32_w]
        rfl
       refine take_ (i := 2) (N := some 27) (v := ?_) (a' := ?_) #[true, true, true, false, false, false, false, false, false, false, false, false, false, false, false, false, false, false, false, false, false, false, false, false, false, false, false] rfl rfl (take_ofW HT_.out HW_.out (by kernel_rfl)) (fun _ _ _ h => h) (Or.inl ⟨by rfl, ?_⟩) hHeld ?_ ?_
       rotate_left
       ·rintro w' ⟨s0, s1, s2, s3, s4, s5⟩
        go_simp
        with_reducible rfl
       rotate_left
       ·simp only [Act.put, s1, s2, s3, i64_w, i32_w]
        rfl
       refine one_ (i := 3) (N := some 28) #[true, true, true, true, false, false, false, false, false, false, false, false, false, false, false, false, false, false, false, false, false, false, false, false, false, false, false] rfl rfl (one_of HT_.out (by kernel_rfl)) (by decide) (fun K hK => ?_)
       refine goes_ Try.func19 (by kernel_rfl) rfl #[.agg #[.int .i64 a1_0, .int .i64 a1_1], .agg #[.int .i64 a0_0, .int .i64 a0_1]] (by rfl) rfl rfl (by (try simp only [List.map_toArray, List.map_cons, List.map_nil]); first | done | rfl | (simp only [List.length_drop, List.length_take]; rfl)) ?_
       with_reducible refine (sphere_Chord.calls kj3 a1_0 a1_1 a0_0 a0_1 t395 _ A37.out).mono ?_
       rintro e w52 ⟨rfl, hb⟩
       refine ⟨_, rfl, ?_⟩
       have n0_ := Aside0.mk (blk_below (g := gb387) (o := .cells #[.int .i64 a0_0, .int .i64 a0_1] 23 (0, 0)) BK387.out hb)
       have n1_ := Aside0.mk (blk_below (g := gb388) (o := .cells #[.int .i64 a1_0, .int .i64 a1_1] 23 (0, 0)) BK388.out hb)
       have n2_ := Aside0.mk (blk_below (g := gb389) (o := .cells #[.int .i64 a2_0, .int .i64 a2_1] 23 (0, 0)) BK389.out hb)
       have n3_ := Aside0.mk (below_step (by with_reducible repeat first | exact HB.out | apply ba | apply bn | apply bd | refine bs ?_ GE387.out | refine bs ?_ GE388.out | refine bs ?_ GE389.out) hb)
       clear BK387
       clear BK388
       clear BK389
       clear HB
       have BK387 := n0_
       have BK388 := n1_
       have BK389 := n2_
       have HB := n3_
       clear n0_ n1_ n2_ n3_
       (try clear hb)
       (try clear hb2)
       (try clear hk)
       (try clear hi)
       refine hK.out _ _ ⟨(blk_cell BK388.out 0).trans rfl, (blk_cell BK388.out 1).trans rfl, (blk_cell BK387.out 0).trans rfl, (blk_cell BK387.out 1).trans rfl, (blk_cell BK389.out 0).trans rfl, (blk_cell BK389.out 1).trans rfl⟩ (fun hHeld => ?_)
       clear hK K
       refine norm_ (a' := ?_) ?_ ?_
       rotate_left
       ·show Act.put _ (some 28) _ = _
        simp only [Act.put, s1, s2, s3, i64_w, i32_w]
        rfl
       refine pure_ (i := 4) (N := some 29) (v := ?_) (a' := ?_) #[true, true, true, true, true, false, false, false, false, false, false, false, false, false, false, false, false, false, false, false, false, false, false, false, false, false, false] rfl rfl (any_of HT_.out (by kernel_rfl)) (fun _ _ _ h => h) (Or.inl ⟨by rfl, ?_⟩) ?_ ?_
       rotate_left
       ·intro w'
        go_simp
        with_reducible rfl
       rotate_left
       ·simp only [Act.put, s1, s2, s3, i64_w, i32_w]
        rfl
       refine pure_ (i := 5) (N := some 30) (v := ?_) (a' := ?_) #[true, true, true, true, true, true, false, false, false, false, false, false, false, false, false, false, false, false, false, false, false, false, false, false, false, false, false] rfl rfl (any_of HT_.out (by kernel_rfl)) (fun _ _ _ h => h) (Or.inl ⟨by rfl, ?_⟩) ?_ ?_
       rotate_left
       ·intro w'
        go_simp
        with_reducible rfl
       rotate_left
       ·simp only [Act.put, s1, s2, s3, i64_w, i32_w]
        rfl
       refine take_ (i := 6) (N := some 31) (v := ?_) (a' := ?_) #[true, true, true, true, true, true, true, false, false, false, false, false, false, false, false, false, false, false, false, false, false, false, false, false, false, false, false] rfl rfl (take_ofW HT_.out HW_.out (by kernel_rfl)) (fun _ _ _ h => h) (Or.inl ⟨by rfl, ?_⟩) hHeld ?_ ?_
       rotate_left
       ·rintro w' ⟨s0, s1, s2, s3, s4, s5⟩
        go_simp
        with_reducible rfl
       rotate_left
       ·simp only [Act.put, s1, s2, s3, i64_w, i32_w]
        rfl
       refine take_ (i := 7) (N := some 32) (v := ?_) (a' := ?_) #[true, true, true, true, true, true, true, true, false, false, false, false, false, false, false, false, false, false, false, false, false, false, false, false, false, false, false] rfl rfl (take_ofW HT_.out HW_.out (by kernel_rfl)) (fun _ _ _ h => h) (Or.inl ⟨by rfl, ?_⟩) hHeld ?_ ?_
       rotate_left
       ·rintro w' ⟨s0, s1, s2, s3, s4, s5⟩
        go_simp
        with_reducible rfl
       rotate_left
       ·simp only [Act.put, s1, s2, s3, i64_w, i32_w]
        rfl
       refine one_ (i := 8) (N := some 33) #[true, true, true, true, true, true, true, true, true, false, false, false, false, false, false, false, false, false, false, false, false, false, false, false, false, false, false] rfl rfl (one_of HT_.out (by kernel_rfl)) (by decide) (fun K hK => ?_)
       refine goes_ Try.func19 (by kernel_rfl) rfl #[.agg #[.int .i64 a0_0, .int .i64 a0_1], .agg #[.int .i64 a0_0, .int .i64 a0_1]] (by rfl) rfl rfl (by (try simp only [List.map_toArray, List.map_cons, List.map_nil]); first | done | rfl | (simp only [List.length_drop, List.length_take]; rfl)) ?_
       with_reducible refine (sphere_Chord.calls kj3 a0_0 a0_1 a0_0 a0_1 t396 _ A39.out).mono ?_
       rintro e w53 ⟨rfl, hb⟩
       refine ⟨_, rfl, ?_⟩
       have n0_ := Aside0.mk (blk_below (g := gb387) (o := .cells #[.int .i64 a0_0, .int .i64 a0_1] 23 (0, 0)) BK387.out hb)
       have n1_ := Aside0.mk (blk_below (g := gb388) (o := .cells #[.int .i64 a1_0, .int .i64 a1_1] 23 (0, 0)) BK388.out hb)
       have n2_ := Aside0.mk (blk_below (g := gb389) (o := .cells #[.int .i64 a2_0, .int .i64 a2_1] 23 (0, 0)) BK389.out hb)
       have n3_ := Aside0.mk (below_step (by with_reducible repeat first | exact HB.out | apply ba | apply bn | apply bd | refine bs ?_ GE387.out | refine bs ?_ GE388.out | refine bs ?_ GE389.out) hb)
       clear BK387
       clear BK388
       clear BK389
       clear HB
       have BK387 := n0_
       have BK388 := n1_
       have BK389 := n2_
       have HB := n3_
       clear n0_ n1_ n2_ n3_
       (try clear hb)
       (try clear hb2)
       (try clear hk)
       (try clear hi)
       refine hK.out _ _ ⟨(blk_cell BK388.out 0).trans rfl, (blk_cell BK388.out 1).trans rfl, (blk_cell BK387.out 0).trans rfl, (blk_cell BK387.out 1).trans rfl, (blk_cell BK389.out 0).trans rfl, (blk_cell BK389.out 1).trans rfl⟩ (fun hHeld => ?_)
       clear hK K
       refine norm_ (a' := ?_) ?_ ?_
       rotate_left
       ·show Act.put _ (some 33) _ = _
        simp only [Act.put, s1, s2, s3, i64_w, i32_w]
        rfl
       refine pure_ (i := 9) (N := some 34) (v := ?_) (a' := ?_) #[true, true, true, true, true, true, true, true, true, true, false, false, false, false, false, false, false, false, false, false, false, false, false, false, false, false, false] rfl rfl (any_of HT_.out (by kernel_rfl)) (fun _ _ _ h => h) (Or.inl ⟨by rfl, ?_⟩) ?_ ?_
       rotate_left
       ·intro w'
        go_simp
        with_reducible rfl
       rotate_left
       ·simp only [Act.put, s1, s2, s3, i64_w, i32_w]
        rfl
       refine pure_ (i := 10) (N := some 35) (v := ?_) (a' := ?_) #[true, true, true, true, true, true, true, true, true, true, true, false, false, false, false, false, false, false, false, false, false, false, false, false, false, false, false] rfl rfl (any_of HT_.out (by kernel_rfl)) (fun _ _ _ h => h) (Or.inl ⟨by rfl, ?_⟩) ?_ ?_
       rotate_left
       ·intro w'
        go_simp
        with_reducible rfl
       rotate_left
       ·simp only [Act.put, s1, s2, s3, i64_w, i32_w]
        rfl
       refine pure_ (i := 11) (N := some 36) (v := ?_) (a' := ?_) #[true, true, true, true, true, true, true, true, true, true, true, true, false, false, false, false, false, false, false, false, false, false, false, false, false, false, false] rfl rfl (any_of HT_.out (by kernel_rfl)) (fun _ _ _ h => h) (Or.inl ⟨by rfl, ?_⟩) ?_ ?_
       rotate_left
       ·intro w'
        go_simp
        with_reducible rfl
       rotate_left
       ·simp only [Act.put, s1, s2, s3, i64_w, i32_w]
        rfl
       refine pure_ (i := 12) (N := some 37) (v := ?_) (a' := ?_) #[true, true, true, true, true, true, true, true, true, true, true, true, true, false, false, false, false, false, false, false, false, false, false, false, false, false, false] rfl rfl (any_of HT_.out (by kernel_rfl)) (fun _ _ _ h => h) (Or.inl ⟨by rfl, ?_⟩) ?_ ?_
       rotate_left
       ·intro w'
        go_simp
        with_reducible rfl
       rotate_left
       ·simp only [Act.put, s1, s2, s3, i64_w, i32_w]
        rfl
       refine take_ (i := 13) (N := some 38) (v := ?_) (a' := ?_) #[true, true, true, true, true, true, true, true, true, true, true, true, true, true, false, false, false, false, false, false, false, false, false, false, false, false, false] rfl rfl (take_ofW HT_.out HW_.out (by kernel_rfl)) (fun _ _ _ h => h) (Or.inl ⟨by rfl, ?_⟩) hHeld ?_ ?_
       rotate_left
       ·rintro w' ⟨s0, s1, s2, s3, s4, s5⟩
        go_simp
        with_reducible rfl
       rotate_left
       ·simp only [Act.put, s1, s2, s3, i64_w, i32_w]
        rfl
       refine take_ (i := 14) (N := some 39) (v := ?_) (a' := ?_) #[true, true, true, true, true, true, true, true, true, true, true, true, true, true, true, false, false, false, false, false, false, false, false, false, false, false, false] rfl rfl (take_ofW HT_.out HW_.out (by kernel_rfl)) (fun _ _ _ h => h) (Or.inl ⟨by rfl, ?_⟩) hHeld ?_ ?_
       rotate_left
       ·rintro w' ⟨s0, s1, s2, s3, s4, s5⟩
        go_simp
        with_reducible rfl
       rotate_left
       ·simp only [Act.put, s1, s2, s3, i64_w, i32_w]
        rfl
       refine take_ (i := 16) (N := some 41) (v := ?_) (a' := ?_) #[true, true, true, true, true, true, true, true, true, true, true, true, true, true, true, false, true, false, false, false, false, false, false, false, false, false, false] rfl rfl (take_ofW HT_.out HW_.out (by kernel_rfl)) (fun _ _ _ h => h) (Or.inl ⟨by rfl, ?_⟩) hHeld ?_ ?_
       rotate_left
       ·rintro w' ⟨s0, s1, s2, s3, s4, s5⟩
        go_simp
        with_reducible rfl
       rotate_left
       ·simp only [Act.put, s1, s2, s3, i64_w, i32_w]
        rfl
       refine take_ (i := 17) (N := some 42) (v := ?_) (a' := ?_) #[true, true, true, true, true, true, true, true, true, true, true, true, true, true, true, false, true, true, false, false, false, false, false, false, false, false, false] rfl rfl (take_ofW HT_.out HW_.out (by kernel_rfl)) (fun _ _ _ h => h) (Or.inl ⟨by rfl, ?_⟩) hHeld ?_ ?_
       rotate_left
       ·rintro w' ⟨s0, s1, s2, s3, s4, s5⟩
        go_simp
        with_reducible rfl
       rotate_left
       ·simp only [Act.put, s1, s2, s3, i64_w, i32_w]
        rfl
       refine one_ (i := 15) (N := some 40) #[true, true, true, true, true, true, true, true, true, true, true, true, true, true, true, true, true, true, false, false, false, false, false, false, false, false, false] rfl rfl (one_of HT_.out (by kernel_rfl)) (by decide) (fun K hK => ?_)
       refine goes_ Try.func19 (by kernel_rfl) rfl #[.agg #[.int .i64 a0_0, .int .i64 a0_1], .agg #[.int .i64 a2_0, .int .i64 a2_1]] (by rfl) rfl rfl (by (try simp only [List.map_toArray, List.map_cons, List.map_nil]); first | done | rfl | (simp only [List.length_drop, List.length_take]; rfl)) ?_
       with_reducible refine (sphere_Chord.calls kj3 a0_0 a0_1 a2_0 a2_1 t397 _ A41.out).mono ?_
       rintro e w54 ⟨rfl, hb⟩
       refine ⟨_, rfl, ?_⟩
       have n0_ := Aside0.mk (blk_below (g := gb387) (o := .cells #[.int .i64 a0_0, .int .i64 a0_1] 23 (0, 0)) BK387.out hb)
       have n1_ := Aside0.mk (blk_below (g := gb388) (o := .cells #[.int .i64 a1_0, .int .i64 a1_1] 23 (0, 0)) BK388.out hb)
       have n2_ := Aside0.mk (blk_below (g := gb389) (o := .cells #[.int .i64 a2_0, .int .i64 a2_1] 23 (0, 0)) BK389.out hb)
       have n3_ := Aside0.mk (below_step (by with_reducible repeat first | exact HB.out | apply ba | apply bn | apply bd | refine bs ?_ GE387.out | refine bs ?_ GE388.out | refine bs ?_ GE389.out) hb)
       clear BK387
       clear BK388
       clear BK389
       clear HB
       have BK387 := n0_
       have BK388 := n1_
       have BK389 := n2_
       have HB := n3_
       clear n0_ n1_ n2_ n3_
       (try clear hb)
       (try clear hb2)
       (try clear hk)
       (try clear hi)
       refine hK.out _ _ ⟨(blk_cell BK388.out 0).trans rfl, (blk_cell BK388.out 1).trans rfl, (blk_cell BK387.out 0).trans rfl, (blk_cell BK387.out 1).trans rfl, (blk_cell BK389.out 0).trans rfl, (blk_cell BK389.out 1).trans rfl⟩ (fun hHeld => ?_)
       clear hK K
       refine norm_ (a' := ?_) ?_ ?_
       rotate_left
       ·show Act.put _ (some 40) _ = _
        simp only [Act.put, s1, s2, s3, i64_w, i32_w]
        rfl
       refine one_ (i := 18) (N := some 43) #[true, true, true, true, true, true, true, true, true, true, true, true, true, true, true, true, true, true, true, false, false, false, false, false, false, false, false] rfl rfl (one_of HT_.out (by kernel_rfl)) (by decide) (fun K hK => ?_)
       refine goes_ Try.func19 (by kernel_rfl) rfl #[.agg #[.int .i64 a2_0, .int .i64 a2_1], .agg #[.int .i64 a1_0, .int .i64 a1_1]] (by rfl) rfl rfl (by (try simp only [List.map_toArray, List.map_cons, List.map_nil]); first | done | rfl | (simp only [List.length_drop, List.length_take]; rfl)) ?_
       with_reducible refine (sphere_Chord.calls kj3 a2_0 a2_1 a1_0 a1_1 t398 _ A42.out).mono ?_
       rintro e w55 ⟨rfl, hb⟩
       refine ⟨_, rfl, ?_⟩
       have n0_ := Aside0.mk (blk_below (g := gb387) (o := .cells #[.int .i64 a0_0, .int .i64 a0_1] 23 (0, 0)) BK387.out hb)
       have n1_ := Aside0.mk (blk_below (g := gb388) (o := .cells #[.int .i64 a1_0, .int .i64 a1_1] 23 (0, 0)) BK388.out hb)
       have n2_ := Aside0.mk (blk_below (g := gb389) (o := .cells #[.int .i64 a2_0, .int .i64 a2_1] 23 (0, 0)) BK389.out hb)
       have n3_ := Aside0.mk (below_step (by with_reducible repeat first | exact HB.out | apply ba | apply bn | apply bd | refine bs ?_ GE387.out | refine bs ?_ GE388.out | refine bs ?_ GE389.out) hb)
       clear BK387
       clear BK388
       clear BK389
       clear HB
       have BK387 := n0_
       have BK388 := n1_
       have BK389 := n2_
       have HB := n3_
       clear n0_ n1_ n2_ n3_
       (try clear hb)
       (try clear hb2)
       (try clear hk)
       (try clear hi)
       refine hK.out _ _ ⟨(blk_cell BK388.out 0).trans rfl, (blk_cell BK388.out 1).trans rfl, (blk_cell BK387.out 0).trans rfl, (blk_cell BK387.out 1).trans rfl, (blk_cell BK389.out 0).trans rfl, (blk_cell BK389.out 1).trans rfl⟩ (fun hHeld => ?_)
       clear hK K
       refine norm_ (a' := ?_) ?_ ?_
       rotate_left
       ·show Act.put _ (some 43) _ = _
        simp only [Act.put, s1, s2, s3, i64_w, i32_w]
        rfl
       refine pure_ (i := 19) (N := some 44) (v := ?_) (a' := ?_) #[true, true, true, true, true, true, true, true, true, true, true, true, true, true, true, true, true, true, true, true, false, false, false, false, false, false, false] rfl rfl (any_of HT_.out (by kernel_rfl)) (fun _ _ _ h => h) (Or.inl ⟨by rfl, ?_⟩) ?_ ?_
       rotate_left
       ·intro w'
        go_simp
        with_reducible rfl
       rotate_left
       ·simp only [Act.put, s1, s2, s3, i64_w, i32_w]
        rfl
       refine pure_ (i := 20) (N := some 45) (v := ?_) (a' := ?_) #[true, true, true, true, true, true, true, true, true, true, true, true, true, true, true, true, true, true, true, true, true, false, false, false, false, false, false] rfl rfl (any_of HT_.out (by kernel_rfl)) (fun _ _ _ h => h) (Or.inl ⟨by rfl, ?_⟩) ?_ ?_
       rotate_left
       ·intro w'
        go_simp
        with_reducible rfl
       rotate_left
       ·simp only [Act.put, s1, s2, s3, i64_w, i32_w]
        rfl
       refine pure_ (i := 21) (N := some 46) (v := ?_) (a' := ?_) #[true, true, true, true, true, true, true, true, true, true, true, true, true, true, true, true, true, true, true, true, true, true, false, false, false, false, false] rfl rfl (any_of HT_.out (by kernel_rfl)) (fun _ _ _ h => h) (Or.inl ⟨by rfl, ?_⟩) ?_ ?_
       rotate_left
       ·intro w'
        go_simp
        with_reducible rfl
       rotate_left
       ·simp only [Act.put, s1, s2, s3, i64_w, i32_w]
        rfl
       refine pure_ (i := 22) (N := some 47) (v := ?_) (a' := ?_) #[true, true, true, true, true, true, true, true, true, true, true, true, true, true, true, true, true, true, true, true, true, true, true, false, false, false, false] rfl rfl (any_of HT_.out (by kernel_rfl)) (fun _ _ _ h => h) (Or.inl ⟨by rfl, ?_⟩) ?_ ?_
       rotate_left
       ·intro w'
        go_simp
        with_reducible rfl
       rotate_left
       ·simp only [Act.put, s1, s2, s3, i64_w, i32_w]
        rfl
       refine pure_ (i := 23) (N := some 48) (v := ?_) (a' := ?_) #[true, true, true, true, true, true, true, true, true, true, true, true, true, true, true, true, true, true, true, true, true, true, true, true, false, false, false] rfl rfl (any_of HT_.out (by kernel_rfl)) (fun _ _ _ h => h) (Or.inl ⟨by rfl, ?_⟩) ?_ ?_
       rotate_left
       ·intro w'
        go_simp
        with_reducible rfl
       rotate_left
       ·simp only [Act.put, s1, s2, s3, i64_w, i32_w]
        rfl
       refine one_ (i := 24) (N := some 49) #[true, true, true, true, true, true, true, true, true, true, true, true, true, true, true, true, true, true, true, true, true, true, true, true, true, false, false] rfl rfl (one_of HT_.out (by kernel_rfl)) (by decide) (fun K hK => ?_)
       refine goes_ Try.func14 (by kernel_rfl) rfl #[] (by rfl) rfl rfl (by (try simp only [List.map_toArray, List.map_cons, List.map_nil]); first | done | rfl | (simp only [List.length_drop, List.length_take]; rfl)) ?_
       with_reducible refine (mapsheetslaw12_awake.calls kj3  t399 _ A44.out).mono ?_
       rintro e w56 ⟨rfl, hb⟩
       refine ⟨_, rfl, ?_⟩
       have n0_ := Aside0.mk (blk_below (g := gb387) (o := .cells #[.int .i64 a0_0, .int .i64 a0_1] 23 (0, 0)) BK387.out hb)
       have n1_ := Aside0.mk (blk_below (g := gb388) (o := .cells #[.int .i64 a1_0, .int .i64 a1_1] 23 (0, 0)) BK388.out hb)
       have n2_ := Aside0.mk (blk_below (g := gb389) (o := .cells #[.int .i64 a2_0, .int .i64 a2_1] 23 (0, 0)) BK389.out hb)
       have n3_ := Aside0.mk (below_step (by with_reducible repeat first | exact HB.out | apply ba | apply bn | apply bd | refine bs ?_ GE387.out | refine bs ?_ GE388.out | refine bs ?_ GE389.out) hb)
       clear BK387
       clear BK388
       clear BK389
       clear HB
       have BK387 := n0_
       have BK388 := n1_
       have BK389 := n2_
       have HB := n3_
       clear n0_ n1_ n2_ n3_
       (try clear hb)
       (try clear hb2)
       (try clear hk)
       (try clear hi)
       refine hK.out _ _ ⟨(blk_cell BK388.out 0).trans rfl, (blk_cell BK388.out 1).trans rfl, (blk_cell BK387.out 0).trans rfl, (blk_cell BK387.out 1).trans rfl, (blk_cell BK389.out 0).trans rfl, (blk_cell BK389.out 1).trans rfl⟩ (fun hHeld => ?_)
       clear hK K
       refine norm_ (a' := ?_) ?_ ?_
       rotate_left
       ·show Act.put _ (some 49) _ = _
        simp only [Act.put, s1, s2, s3, i64_w, i32_w]
        rfl
       refine pure_ (i := 25) (N := some 50) (v := ?_) (a' := ?_) #[true, true, true, true, true, true, true, true, true, true, true, true, true, true, true, true, true, true, true, true, true, true, true, true, true, true, false] rfl rfl (any_of HT_.out (by kernel_rfl)) (fun _ _ _ h => h) (Or.inl ⟨by rfl, ?_⟩) ?_ ?_
       rotate_left
       ·intro w'
        go_simp
        with_reducible rfl
       rotate_left
       ·simp only [Act.put, s1, s2, s3, i64_w, i32_w]
        rfl
       refine pure_ (i := 26) (N := some 6) (v := ?_) (a' := ?_) #[true, true, true, true, true, true, true, true, true, true, true, true, true, true, true, true, true, true, true, true, true, true, true, true, true, true, true] rfl rfl (any_of HT_.out (by kernel_rfl)) (fun _ _ _ h => h) (Or.inl ⟨by rfl, ?_⟩) ?_ ?_
       rotate_left
       ·intro w'
        go_simp
        with_reducible rfl
       rotate_left
       ·simp only [Act.put, s1, s2, s3, i64_w, i32_w]
        rfl
       refine done_ (done_of HT_.out (by kernel_rfl)) ?_
       try go_wp2
       go_ret
       exact ⟨by first | rfl | (simp [errW_none, errW_some] <;> rfl) | (simp [*, errW_none, errW_some] <;> rfl), by with_reducible repeat first | exact HB.out | apply ba | apply bn | apply bd | refine bs ?_ GE387.out | refine bs ?_ GE388.out | refine bs ?_ GE389.out⟩
      ·rw [if_neg c43] at H
       have c43b0 : decide (t394 ≤ (wrap64 ((wrap64 (t397 + t398)) + 1))) = false := decide_eq_false c43
       clear c43
       exact absurd H (by simp)
     ·rw [if_neg c40] at H
      have c40b0 : (t396 == 0) = false := beq_eq_false_iff_ne.mpr c40
      have c40b1 : (t396 != 0) = true := bne_iff_ne.mpr c40
      exact absurd H (by simp)
    ·rw [if_neg c38] at H
     have c38b0 : (t394 == t395) = false := beq_eq_false_iff_ne.mpr c38
     have c38b1 : (t394 != t395) = true := bne_iff_ne.mpr c38
     exact absurd H (by simp)

/-- THE ONE PURE STATEMENT of mapsheetslaw12_SphereTriangle: yours. -/
def mapsheetslaw12_SphereTriangle.Pure : Prop := ∀ (a0_0 : Int) (a0_1 : Int) (a1_0 : Int) (a1_1 : Int) (a2_0 : Int) (a2_1 : Int), (Lit.int .i64 a0_0).wf = true → (Lit.int .i64 a0_1).wf = true → (Lit.int .i64 a1_0).wf = true → (Lit.int .i64 a1_1).wf = true → (Lit.int .i64 a2_0).wf = true → (Lit.int .i64 a2_1).wf = true → ∃ k, mapsheetslaw12_SphereTriangle.f k a0_0 a0_1 a1_0 a1_1 a2_0 a2_1 = some true
theorem mapsheetslaw12_SphereTriangle.walk (P : mapsheetslaw12_SphereTriangle.Pure) (a0_0 : Int) (a0_1 : Int) (a1_0 : Int) (a1_1 : Int) (a2_0 : Int) (a2_1 : Int) (w : World) (w0_0 : (Lit.int .i64 a0_0).wf = true) (w0_1 : (Lit.int .i64 a0_1).wf = true) (w1_0 : (Lit.int .i64 a1_0).wf = true) (w1_1 : (Lit.int .i64 a1_1).wf = true) (w2_0 : (Lit.int .i64 a2_0).wf = true) (w2_1 : (Lit.int .i64 a2_1).wf = true) :
  Calls Try.prog 9 #[.agg #[.int .i64 a0_0, .int .i64 a0_1], .agg #[.int .i64 a1_0, .int .i64 a1_1], .agg #[.int .i64 a2_0, .int .i64 a2_1]] w fun e w' => e = .returned (.bool true) ∧ Below w.heap.size w w' := by
 obtain ⟨k, h⟩ := P a0_0 a0_1 a1_0 a1_1 a2_0 a2_1 w0_0 w0_1 w1_0 w1_1 w2_0 w2_1
 refine (mapsheetslaw12_SphereTriangle.calls k a0_0 a0_1 a1_0 a1_1 a2_0 a2_1 true w h).mono ?_
 rintro e w' ⟨rfl, hd⟩
 exact ⟨rfl, hd⟩

end Go.Proofs.Yteojklacaecmpaa.P
